/-
  No cell of these rows narrows 'for every input' (looked for: loops, veiled, ifaces, maps, wideKeys, modest, calm, conditions, laid).
  DERIVED. THE GIVEN ROWS OF THIS SEAT. 7 by the template 'for every input the law returns true; each argument reads behind the call as it read before'; 0 by the template 'total and deterministic' (their statements: YtehfcafmdnfamaaTotals.lean).
  GIVEN WITH THE SEED: the statements are not yours to turn. If you find one false, say at which input.
  Laid BY PROGRAM, IN A SANDBOX (cutbox-rows.mjs): the forced cells as the released guide's own fill.sh prints them over the translation 99e416dd2785f083… (all of the seat's roots in one cut). By AI agents, Wed Nov 11 2026. No macro, syntax, notation, axiom, sorry.
-/
import Derived.Test.YtehfcafmdnfamaaChecked
import GoSem.Claim
import GoSem.ClaimJoined
import GoSem.ClaimMapViews
import Derived.JoinedTies
import Derived.KernelRfl
namespace Go.Proofs.Ytehfcafmdnfamaa
/- THE CELL 'sum', in the pinned program and in every row, IS THE sha256 OF THE DUMP (.gsa) THAT YtehfcafmdnfamaaProg.lean LOADS. Nothing in Lean hashes anything: it is a label: what it is worth is what the hold of that sum in a sandbox is worth. -/
noncomputable def Try.pinned : Pinned := { name := "ytehfcafmdnfamaa", sum := "99e416dd2785f083919a7c0f31aa7ef0488997a2de735a2f576626a26de841bf", checked := Try.checked }
namespace Rows
def none {H : Type} : Left H := { results := [], args := [] }

/-- 'morainelaw08.SkipWalks': WHATEVER THE INPUT: true; the input reads as it did. -/
def skipWalksSpec : ChangeSpec := { name := "skipWalks", fn := fun _ => fun
  | [d1, d2, d3] => { results := [.lit (.bool true)], args := [d1, d2, d3] }
  | _ => none }
def skipWalksRow : OpenClaim := { program := "ytehfcafmdnfamaa", sum := "99e416dd2785f083919a7c0f31aa7ef0488997a2de735a2f576626a26de841bf", func := "moraine/morainelaw08.SkipWalks", spec := "skipWalks", inPlace := ["internal/bytealg.abigen_runtime_cmpstring"], unfollowed := true, recurses := true, apart := false }
def SkipWalksSaid : Prop := skipWalksRow.holds Try.pinned (OpenSpec.ofChange skipWalksSpec)

/-- ITS FALSE NEIGHBOUR: 'it returns false'. Refute it at one input. -/
def skipWalksWrong : ChangeSpec := { name := "skipWalks", fn := fun _ => fun
  | [d1, d2, d3] => { results := [.lit (.bool false)], args := [d1, d2, d3] }
  | _ => none }
def SkipWalksWrongFalsely : Prop := skipWalksRow.holds Try.pinned (OpenSpec.ofChange skipWalksWrong)

/-- 'morainelaw08.SkipMemory': WHATEVER THE INPUT: true; the input reads as it did. -/
def skipMemorySpec : ChangeSpec := { name := "skipMemory", fn := fun _ => fun
  | [d1, d2] => { results := [.lit (.bool true)], args := [d1, d2] }
  | _ => none }
def skipMemoryRow : OpenClaim := { program := "ytehfcafmdnfamaa", sum := "99e416dd2785f083919a7c0f31aa7ef0488997a2de735a2f576626a26de841bf", func := "moraine/morainelaw08.SkipMemory", spec := "skipMemory", inPlace := ["internal/bytealg.abigen_runtime_cmpstring"], apart := false }
def SkipMemorySaid : Prop := skipMemoryRow.holds Try.pinned (OpenSpec.ofChange skipMemorySpec)

/-- ITS FALSE NEIGHBOUR: 'it returns false'. Refute it at one input. -/
def skipMemoryWrong : ChangeSpec := { name := "skipMemory", fn := fun _ => fun
  | [d1, d2] => { results := [.lit (.bool false)], args := [d1, d2] }
  | _ => none }
def SkipMemoryWrongFalsely : Prop := skipMemoryRow.holds Try.pinned (OpenSpec.ofChange skipMemoryWrong)

/-- 'morainelaw08.SkipDown': WHATEVER THE INPUT: true; the input reads as it did. -/
def skipDownSpec : ChangeSpec := { name := "skipDown", fn := fun _ => fun
  | [d1, d2] => { results := [.lit (.bool true)], args := [d1, d2] }
  | _ => none }
def skipDownRow : OpenClaim := { program := "ytehfcafmdnfamaa", sum := "99e416dd2785f083919a7c0f31aa7ef0488997a2de735a2f576626a26de841bf", func := "moraine/morainelaw08.SkipDown", spec := "skipDown", inPlace := ["internal/bytealg.abigen_runtime_cmpstring"], apart := false }
def SkipDownSaid : Prop := skipDownRow.holds Try.pinned (OpenSpec.ofChange skipDownSpec)

/-- ITS FALSE NEIGHBOUR: 'it returns false'. Refute it at one input. -/
def skipDownWrong : ChangeSpec := { name := "skipDown", fn := fun _ => fun
  | [d1, d2] => { results := [.lit (.bool false)], args := [d1, d2] }
  | _ => none }
def SkipDownWrongFalsely : Prop := skipDownRow.holds Try.pinned (OpenSpec.ofChange skipDownWrong)

/-- 'morainelaw08.SkipHeights': WHATEVER THE INPUT: true; the input reads as it did. -/
def skipHeightsSpec : ChangeSpec := { name := "skipHeights", fn := fun _ => fun
  | [d1, d2, d3] => { results := [.lit (.bool true)], args := [d1, d2, d3] }
  | _ => none }
def skipHeightsRow : OpenClaim := { program := "ytehfcafmdnfamaa", sum := "99e416dd2785f083919a7c0f31aa7ef0488997a2de735a2f576626a26de841bf", func := "moraine/morainelaw08.SkipHeights", spec := "skipHeights", inPlace := ["internal/bytealg.abigen_runtime_cmpstring"], unfollowed := true, recurses := true, apart := false }
def SkipHeightsSaid : Prop := skipHeightsRow.holds Try.pinned (OpenSpec.ofChange skipHeightsSpec)

/-- ITS FALSE NEIGHBOUR: 'it returns false'. Refute it at one input. -/
def skipHeightsWrong : ChangeSpec := { name := "skipHeights", fn := fun _ => fun
  | [d1, d2, d3] => { results := [.lit (.bool false)], args := [d1, d2, d3] }
  | _ => none }
def SkipHeightsWrongFalsely : Prop := skipHeightsRow.holds Try.pinned (OpenSpec.ofChange skipHeightsWrong)

/-- 'morainelaw08.SkipRises': WHATEVER THE INPUT: true; the input reads as it did. -/
def skipRisesSpec : ChangeSpec := { name := "skipRises", fn := fun _ => fun
  | [d] => { results := [.lit (.bool true)], args := [d] }
  | _ => none }
def skipRisesRow : OpenClaim := { program := "ytehfcafmdnfamaa", sum := "99e416dd2785f083919a7c0f31aa7ef0488997a2de735a2f576626a26de841bf", func := "moraine/morainelaw08.SkipRises", spec := "skipRises", inPlace := ["internal/bytealg.abigen_runtime_cmpstring"], unfollowed := true, recurses := true, apart := false }
def SkipRisesSaid : Prop := skipRisesRow.holds Try.pinned (OpenSpec.ofChange skipRisesSpec)

/-- ITS FALSE NEIGHBOUR: 'it returns false'. Refute it at one input. -/
def skipRisesWrong : ChangeSpec := { name := "skipRises", fn := fun _ => fun
  | [d] => { results := [.lit (.bool false)], args := [d] }
  | _ => none }
def SkipRisesWrongFalsely : Prop := skipRisesRow.holds Try.pinned (OpenSpec.ofChange skipRisesWrong)

/-- 'morainelaw08.SkipPlays': WHATEVER THE INPUT: true; the input reads as it did. -/
def skipPlaysSpec : ChangeSpec := { name := "skipPlays", fn := fun _ => fun
  | [d1, d2] => { results := [.lit (.bool true)], args := [d1, d2] }
  | _ => none }
def skipPlaysRow : OpenClaim := { program := "ytehfcafmdnfamaa", sum := "99e416dd2785f083919a7c0f31aa7ef0488997a2de735a2f576626a26de841bf", func := "moraine/morainelaw08.SkipPlays", spec := "skipPlays", inPlace := ["internal/bytealg.abigen_runtime_cmpstring"], apart := false }
def SkipPlaysSaid : Prop := skipPlaysRow.holds Try.pinned (OpenSpec.ofChange skipPlaysSpec)

/-- ITS FALSE NEIGHBOUR: 'it returns false'. Refute it at one input. -/
def skipPlaysWrong : ChangeSpec := { name := "skipPlays", fn := fun _ => fun
  | [d1, d2] => { results := [.lit (.bool false)], args := [d1, d2] }
  | _ => none }
def SkipPlaysWrongFalsely : Prop := skipPlaysRow.holds Try.pinned (OpenSpec.ofChange skipPlaysWrong)

/-- 'morainelaw08.SkipNil': WHATEVER THE INPUT: true; the input reads as it did. -/
def skipNilSpec : ChangeSpec := { name := "skipNil", fn := fun _ => fun
  | [d1, d2] => { results := [.lit (.bool true)], args := [d1, d2] }
  | _ => none }
def skipNilRow : OpenClaim := { program := "ytehfcafmdnfamaa", sum := "99e416dd2785f083919a7c0f31aa7ef0488997a2de735a2f576626a26de841bf", func := "moraine/morainelaw08.SkipNil", spec := "skipNil", inPlace := ["internal/bytealg.abigen_runtime_cmpstring"], unfollowed := true, recurses := true, apart := false }
def SkipNilSaid : Prop := skipNilRow.holds Try.pinned (OpenSpec.ofChange skipNilSpec)

/-- ITS FALSE NEIGHBOUR: 'it returns false'. Refute it at one input. -/
def skipNilWrong : ChangeSpec := { name := "skipNil", fn := fun _ => fun
  | [d1, d2] => { results := [.lit (.bool false)], args := [d1, d2] }
  | _ => none }
def SkipNilWrongFalsely : Prop := skipNilRow.holds Try.pinned (OpenSpec.ofChange skipNilWrong)

/- THE SECOND FORM. 'bulk': how many values and letters a reading holds, each counted each time it is reached (what is shared counts as often as it is met; a slice's spare places count too). A statement '..UptoSaid' is the law's where the arguments, and the package variables that the reading takes, are together of bulk at most 1048576: NARROWER than '..Said'. Prove '..Said' where nothing that the law and all that it calls make is longer than what came in: it says more and counts as full. Else prove '..UptoSaid'. A law counts once. -/
mutual
def uptoBulk {H : Type} : DataW H → Nat
  | .lit (.string bytes) => bytes.length + 1
  | .lit _ => 1
  | .nil => 1
  | .ptr d => uptoBulk d + 1
  | .slice elems spare => uptoBulkAll elems + uptoBulkAll spare + 1
  | .agg parts => uptoBulkAll parts + 1
  | .iface _ d => uptoBulk d + 1
  | .map entries => uptoBulkEntries entries + 1
  | .held _ => 1
def uptoBulkAll {H : Type} : List (DataW H) → Nat
  | [] => 0
  | d :: r => uptoBulk d + uptoBulkAll r
def uptoBulkEntries {H : Type} : List (Lit × DataW H) → Nat
  | [] => 0
  | x :: r => uptoBulkEntry x + uptoBulkEntries r
def uptoBulkEntry {H : Type} : Lit × DataW H → Nat
  | (.string bytes, d) => bytes.length + uptoBulk d + 1
  | (_, d) => uptoBulk d + 1
 end
def uptoSmall : (H : Type) → List (DataW H) → Bool := fun _ ds => decide (uptoBulkAll ds ≤ 1048576)
def OpenSpec.upto (s : _root_.Go.ChangeSpec) : _root_.Go.OpenSpec := { _root_.Go.OpenSpec.ofChange s with cond := some uptoSmall }

/-- 'morainelaw08.SkipWalks', WHERE WHAT IT READS IS OF BULK AT MOST 1048576: true; the input reads as it did. -/
def skipWalksUptoRow : OpenClaim := { program := "ytehfcafmdnfamaa", sum := "99e416dd2785f083919a7c0f31aa7ef0488997a2de735a2f576626a26de841bf", func := "moraine/morainelaw08.SkipWalks", spec := "skipWalks", inPlace := ["internal/bytealg.abigen_runtime_cmpstring"], unfollowed := true, recurses := true, apart := false, narrowed := true }
def SkipWalksUptoSaid : Prop := skipWalksUptoRow.holds Try.pinned (OpenSpec.upto skipWalksSpec)

/-- 'morainelaw08.SkipMemory', WHERE WHAT IT READS IS OF BULK AT MOST 1048576: true; the input reads as it did. -/
def skipMemoryUptoRow : OpenClaim := { program := "ytehfcafmdnfamaa", sum := "99e416dd2785f083919a7c0f31aa7ef0488997a2de735a2f576626a26de841bf", func := "moraine/morainelaw08.SkipMemory", spec := "skipMemory", inPlace := ["internal/bytealg.abigen_runtime_cmpstring"], apart := false, narrowed := true }
def SkipMemoryUptoSaid : Prop := skipMemoryUptoRow.holds Try.pinned (OpenSpec.upto skipMemorySpec)

/-- 'morainelaw08.SkipDown', WHERE WHAT IT READS IS OF BULK AT MOST 1048576: true; the input reads as it did. -/
def skipDownUptoRow : OpenClaim := { program := "ytehfcafmdnfamaa", sum := "99e416dd2785f083919a7c0f31aa7ef0488997a2de735a2f576626a26de841bf", func := "moraine/morainelaw08.SkipDown", spec := "skipDown", inPlace := ["internal/bytealg.abigen_runtime_cmpstring"], apart := false, narrowed := true }
def SkipDownUptoSaid : Prop := skipDownUptoRow.holds Try.pinned (OpenSpec.upto skipDownSpec)

/-- 'morainelaw08.SkipHeights', WHERE WHAT IT READS IS OF BULK AT MOST 1048576: true; the input reads as it did. -/
def skipHeightsUptoRow : OpenClaim := { program := "ytehfcafmdnfamaa", sum := "99e416dd2785f083919a7c0f31aa7ef0488997a2de735a2f576626a26de841bf", func := "moraine/morainelaw08.SkipHeights", spec := "skipHeights", inPlace := ["internal/bytealg.abigen_runtime_cmpstring"], unfollowed := true, recurses := true, apart := false, narrowed := true }
def SkipHeightsUptoSaid : Prop := skipHeightsUptoRow.holds Try.pinned (OpenSpec.upto skipHeightsSpec)

/-- 'morainelaw08.SkipRises', WHERE WHAT IT READS IS OF BULK AT MOST 1048576: true; the input reads as it did. -/
def skipRisesUptoRow : OpenClaim := { program := "ytehfcafmdnfamaa", sum := "99e416dd2785f083919a7c0f31aa7ef0488997a2de735a2f576626a26de841bf", func := "moraine/morainelaw08.SkipRises", spec := "skipRises", inPlace := ["internal/bytealg.abigen_runtime_cmpstring"], unfollowed := true, recurses := true, apart := false, narrowed := true }
def SkipRisesUptoSaid : Prop := skipRisesUptoRow.holds Try.pinned (OpenSpec.upto skipRisesSpec)

/-- 'morainelaw08.SkipPlays', WHERE WHAT IT READS IS OF BULK AT MOST 1048576: true; the input reads as it did. -/
def skipPlaysUptoRow : OpenClaim := { program := "ytehfcafmdnfamaa", sum := "99e416dd2785f083919a7c0f31aa7ef0488997a2de735a2f576626a26de841bf", func := "moraine/morainelaw08.SkipPlays", spec := "skipPlays", inPlace := ["internal/bytealg.abigen_runtime_cmpstring"], apart := false, narrowed := true }
def SkipPlaysUptoSaid : Prop := skipPlaysUptoRow.holds Try.pinned (OpenSpec.upto skipPlaysSpec)

/-- 'morainelaw08.SkipNil', WHERE WHAT IT READS IS OF BULK AT MOST 1048576: true; the input reads as it did. -/
def skipNilUptoRow : OpenClaim := { program := "ytehfcafmdnfamaa", sum := "99e416dd2785f083919a7c0f31aa7ef0488997a2de735a2f576626a26de841bf", func := "moraine/morainelaw08.SkipNil", spec := "skipNil", inPlace := ["internal/bytealg.abigen_runtime_cmpstring"], unfollowed := true, recurses := true, apart := false, narrowed := true }
def SkipNilUptoSaid : Prop := skipNilUptoRow.holds Try.pinned (OpenSpec.upto skipNilSpec)

end Rows
end Go.Proofs.Ytehfcafmdnfamaa
