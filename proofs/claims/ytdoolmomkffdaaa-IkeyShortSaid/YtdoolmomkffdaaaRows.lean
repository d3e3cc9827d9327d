/-
  No cell of these rows narrows 'for every input' (looked for: loops, veiled, ifaces, maps, wideKeys, modest, calm, conditions, laid).
  DERIVED. THE GIVEN ROWS OF THIS SEAT. 9 by the template 'for every input the law returns true; each argument reads behind the call as it read before'; 0 by the template 'total and deterministic' (their statements: YtdoolmomkffdaaaTotals.lean).
  GIVEN WITH THE SEED: the statements are not yours to turn. If you find one false, say at which input.
  Laid BY PROGRAM, IN A SANDBOX (cutbox-rows.mjs): the forced cells as the released guide's own fill.sh prints them over the translation ccabbf2fa6622dad… (all of the seat's roots in one cut). By AI agents, Wed Nov 11 2026. No macro, syntax, notation, axiom, sorry.
-/
import Derived.Test.YtdoolmomkffdaaaChecked
import GoSem.Claim
import GoSem.ClaimJoined
import GoSem.ClaimMapViews
import Derived.JoinedTies
import Derived.KernelRfl
namespace Go.Proofs.Ytdoolmomkffdaaa
/- THE CELL 'sum', in the pinned program and in every row, IS THE sha256 OF THE DUMP (.gsa) THAT YtdoolmomkffdaaaProg.lean LOADS. Nothing in Lean hashes anything: it is a label: what it is worth is what the hold of that sum in a sandbox is worth. -/
noncomputable def Try.pinned : Pinned := { name := "ytdoolmomkffdaaa", sum := "ccabbf2fa6622dad8769c5bcda906576148fddb9a8751a2692d10fc401e7cbe8", checked := Try.checked }
namespace Rows
def none {H : Type} : Left H := { results := [], args := [] }

/-- 'morainelaw03.IkeyPacks': WHATEVER THE INPUT: true; the input reads as it did. -/
def ikeyPacksSpec : ChangeSpec := { name := "ikeyPacks", fn := fun _ => fun
  | [d1, d2, d3] => { results := [.lit (.bool true)], args := [d1, d2, d3] }
  | _ => none }
def ikeyPacksRow : OpenClaim := { program := "ytdoolmomkffdaaa", sum := "ccabbf2fa6622dad8769c5bcda906576148fddb9a8751a2692d10fc401e7cbe8", func := "moraine/morainelaw03.IkeyPacks", spec := "ikeyPacks", apart := false }
def IkeyPacksSaid : Prop := ikeyPacksRow.holds Try.pinned (OpenSpec.ofChange ikeyPacksSpec)

/-- ITS FALSE NEIGHBOUR: 'it returns false'. Refute it at one input. -/
def ikeyPacksWrong : ChangeSpec := { name := "ikeyPacks", fn := fun _ => fun
  | [d1, d2, d3] => { results := [.lit (.bool false)], args := [d1, d2, d3] }
  | _ => none }
def IkeyPacksWrongFalsely : Prop := ikeyPacksRow.holds Try.pinned (OpenSpec.ofChange ikeyPacksWrong)

/-- 'morainelaw03.IkeyOrder': WHATEVER THE INPUT: true; the input reads as it did. -/
def ikeyOrderSpec : ChangeSpec := { name := "ikeyOrder", fn := fun _ => fun
  | [d1, d2, d3] => { results := [.lit (.bool true)], args := [d1, d2, d3] }
  | _ => none }
def ikeyOrderRow : OpenClaim := { program := "ytdoolmomkffdaaa", sum := "ccabbf2fa6622dad8769c5bcda906576148fddb9a8751a2692d10fc401e7cbe8", func := "moraine/morainelaw03.IkeyOrder", spec := "ikeyOrder", inPlace := ["internal/bytealg.abigen_runtime_cmpstring"], apart := false }
def IkeyOrderSaid : Prop := ikeyOrderRow.holds Try.pinned (OpenSpec.ofChange ikeyOrderSpec)

/-- ITS FALSE NEIGHBOUR: 'it returns false'. Refute it at one input. -/
def ikeyOrderWrong : ChangeSpec := { name := "ikeyOrder", fn := fun _ => fun
  | [d1, d2, d3] => { results := [.lit (.bool false)], args := [d1, d2, d3] }
  | _ => none }
def IkeyOrderWrongFalsely : Prop := ikeyOrderRow.holds Try.pinned (OpenSpec.ofChange ikeyOrderWrong)

/-- 'morainelaw03.IkeyCompares': WHATEVER THE INPUT: true; the input reads as it did. -/
def ikeyComparesSpec : ChangeSpec := { name := "ikeyCompares", fn := fun _ => fun
  | [d1, d2] => { results := [.lit (.bool true)], args := [d1, d2] }
  | _ => none }
def ikeyComparesRow : OpenClaim := { program := "ytdoolmomkffdaaa", sum := "ccabbf2fa6622dad8769c5bcda906576148fddb9a8751a2692d10fc401e7cbe8", func := "moraine/morainelaw03.IkeyCompares", spec := "ikeyCompares", inPlace := ["internal/bytealg.abigen_runtime_cmpstring"], apart := false }
def IkeyComparesSaid : Prop := ikeyComparesRow.holds Try.pinned (OpenSpec.ofChange ikeyComparesSpec)

/-- ITS FALSE NEIGHBOUR: 'it returns false'. Refute it at one input. -/
def ikeyComparesWrong : ChangeSpec := { name := "ikeyCompares", fn := fun _ => fun
  | [d1, d2] => { results := [.lit (.bool false)], args := [d1, d2] }
  | _ => none }
def IkeyComparesWrongFalsely : Prop := ikeyComparesRow.holds Try.pinned (OpenSpec.ofChange ikeyComparesWrong)

/-- 'morainelaw03.IkeyFirst': WHATEVER THE INPUT: true; the input reads as it did. -/
def ikeyFirstSpec : ChangeSpec := { name := "ikeyFirst", fn := fun _ => fun
  | [d1, d2, d3] => { results := [.lit (.bool true)], args := [d1, d2, d3] }
  | _ => none }
def ikeyFirstRow : OpenClaim := { program := "ytdoolmomkffdaaa", sum := "ccabbf2fa6622dad8769c5bcda906576148fddb9a8751a2692d10fc401e7cbe8", func := "moraine/morainelaw03.IkeyFirst", spec := "ikeyFirst", inPlace := ["internal/bytealg.abigen_runtime_cmpstring"], apart := false }
def IkeyFirstSaid : Prop := ikeyFirstRow.holds Try.pinned (OpenSpec.ofChange ikeyFirstSpec)

/-- ITS FALSE NEIGHBOUR: 'it returns false'. Refute it at one input. -/
def ikeyFirstWrong : ChangeSpec := { name := "ikeyFirst", fn := fun _ => fun
  | [d1, d2, d3] => { results := [.lit (.bool false)], args := [d1, d2, d3] }
  | _ => none }
def IkeyFirstWrongFalsely : Prop := ikeyFirstRow.holds Try.pinned (OpenSpec.ofChange ikeyFirstWrong)

/-- 'morainelaw03.IkeyCodes': WHATEVER THE INPUT: true; the input reads as it did. -/
def ikeyCodesSpec : ChangeSpec := { name := "ikeyCodes", fn := fun _ => fun
  | [d1, d2] => { results := [.lit (.bool true)], args := [d1, d2] }
  | _ => none }
def ikeyCodesRow : OpenClaim := { program := "ytdoolmomkffdaaa", sum := "ccabbf2fa6622dad8769c5bcda906576148fddb9a8751a2692d10fc401e7cbe8", func := "moraine/morainelaw03.IkeyCodes", spec := "ikeyCodes", apart := false }
def IkeyCodesSaid : Prop := ikeyCodesRow.holds Try.pinned (OpenSpec.ofChange ikeyCodesSpec)

/-- ITS FALSE NEIGHBOUR: 'it returns false'. Refute it at one input. -/
def ikeyCodesWrong : ChangeSpec := { name := "ikeyCodes", fn := fun _ => fun
  | [d1, d2] => { results := [.lit (.bool false)], args := [d1, d2] }
  | _ => none }
def IkeyCodesWrongFalsely : Prop := ikeyCodesRow.holds Try.pinned (OpenSpec.ofChange ikeyCodesWrong)

/-- 'morainelaw03.IkeyBack': WHATEVER THE INPUT: true; the input reads as it did. -/
def ikeyBackSpec : ChangeSpec := { name := "ikeyBack", fn := fun _ => fun
  | [d1, d2] => { results := [.lit (.bool true)], args := [d1, d2] }
  | _ => none }
def ikeyBackRow : OpenClaim := { program := "ytdoolmomkffdaaa", sum := "ccabbf2fa6622dad8769c5bcda906576148fddb9a8751a2692d10fc401e7cbe8", func := "moraine/morainelaw03.IkeyBack", spec := "ikeyBack", apart := false }
def IkeyBackSaid : Prop := ikeyBackRow.holds Try.pinned (OpenSpec.ofChange ikeyBackSpec)

/-- ITS FALSE NEIGHBOUR: 'it returns false'. Refute it at one input. -/
def ikeyBackWrong : ChangeSpec := { name := "ikeyBack", fn := fun _ => fun
  | [d1, d2] => { results := [.lit (.bool false)], args := [d1, d2] }
  | _ => none }
def IkeyBackWrongFalsely : Prop := ikeyBackRow.holds Try.pinned (OpenSpec.ofChange ikeyBackWrong)

/-- 'morainelaw03.IkeyShort': WHATEVER THE INPUT: true; the input reads as it did. -/
def ikeyShortSpec : ChangeSpec := { name := "ikeyShort", fn := fun _ => fun
  | [d1, d2, d3] => { results := [.lit (.bool true)], args := [d1, d2, d3] }
  | _ => none }
def ikeyShortRow : OpenClaim := { program := "ytdoolmomkffdaaa", sum := "ccabbf2fa6622dad8769c5bcda906576148fddb9a8751a2692d10fc401e7cbe8", func := "moraine/morainelaw03.IkeyShort", spec := "ikeyShort", inPlace := ["internal/abi.NoEscape", "internal/bytealg.MakeNoZero"], apart := false }
def IkeyShortSaid : Prop := ikeyShortRow.holds Try.pinned (OpenSpec.ofChange ikeyShortSpec)

/-- ITS FALSE NEIGHBOUR: 'it returns false'. Refute it at one input. -/
def ikeyShortWrong : ChangeSpec := { name := "ikeyShort", fn := fun _ => fun
  | [d1, d2, d3] => { results := [.lit (.bool false)], args := [d1, d2, d3] }
  | _ => none }
def IkeyShortWrongFalsely : Prop := ikeyShortRow.holds Try.pinned (OpenSpec.ofChange ikeyShortWrong)

/-- 'morainelaw03.IkeySeeks': WHATEVER THE INPUT: true; the input reads as it did. -/
def ikeySeeksSpec : ChangeSpec := { name := "ikeySeeks", fn := fun _ => fun
  | [d1, d2, d3] => { results := [.lit (.bool true)], args := [d1, d2, d3] }
  | _ => none }
def ikeySeeksRow : OpenClaim := { program := "ytdoolmomkffdaaa", sum := "ccabbf2fa6622dad8769c5bcda906576148fddb9a8751a2692d10fc401e7cbe8", func := "moraine/morainelaw03.IkeySeeks", spec := "ikeySeeks", inPlace := ["internal/abi.NoEscape", "internal/bytealg.MakeNoZero"], apart := false }
def IkeySeeksSaid : Prop := ikeySeeksRow.holds Try.pinned (OpenSpec.ofChange ikeySeeksSpec)

/-- ITS FALSE NEIGHBOUR: 'it returns false'. Refute it at one input. -/
def ikeySeeksWrong : ChangeSpec := { name := "ikeySeeks", fn := fun _ => fun
  | [d1, d2, d3] => { results := [.lit (.bool false)], args := [d1, d2, d3] }
  | _ => none }
def IkeySeeksWrongFalsely : Prop := ikeySeeksRow.holds Try.pinned (OpenSpec.ofChange ikeySeeksWrong)

/-- 'morainelaw03.IkeySorts': WHATEVER THE INPUT: true; the input reads as it did. -/
def ikeySortsSpec : ChangeSpec := { name := "ikeySorts", fn := fun _ => fun
  | [d1, d2, d3] => { results := [.lit (.bool true)], args := [d1, d2, d3] }
  | _ => none }
def ikeySortsRow : OpenClaim := { program := "ytdoolmomkffdaaa", sum := "ccabbf2fa6622dad8769c5bcda906576148fddb9a8751a2692d10fc401e7cbe8", func := "moraine/morainelaw03.IkeySorts", spec := "ikeySorts", inPlace := ["internal/bytealg.abigen_runtime_cmpstring"], unfollowed := true, recurses := true, apart := false }
def IkeySortsSaid : Prop := ikeySortsRow.holds Try.pinned (OpenSpec.ofChange ikeySortsSpec)

/-- ITS FALSE NEIGHBOUR: 'it returns false'. Refute it at one input. -/
def ikeySortsWrong : ChangeSpec := { name := "ikeySorts", fn := fun _ => fun
  | [d1, d2, d3] => { results := [.lit (.bool false)], args := [d1, d2, d3] }
  | _ => none }
def IkeySortsWrongFalsely : Prop := ikeySortsRow.holds Try.pinned (OpenSpec.ofChange ikeySortsWrong)

/- THE SECOND FORM. 'bulk': how many values and letters a reading holds, each counted each time it is reached (what is shared counts as often as it is met; a slice's spare places count too). A statement '..UptoSaid' is the law's where the arguments, and the package variables that the reading takes, are together of bulk at most 1048576: NARROWER than '..Said'. Prove '..Said' where nothing that the law and all that it calls make is longer than what came in: it says more and counts as full. Else prove '..UptoSaid'. A law counts once. -/
mutual
def uptoBulk {H : Type} : DataW H → Nat
  | .lit (.string bytes) => bytes.length + 1
  | .lit _ => 1
  | .nil => 1
  | .ptr d => uptoBulk d + 1
  | .slice elems spare => uptoBulkAll elems + uptoBulkAll spare + 1
  | .agg parts => uptoBulkAll parts + 1
  | .iface _ d => uptoBulk d + 1
  | .map entries => uptoBulkEntries entries + 1
  | .held _ => 1
def uptoBulkAll {H : Type} : List (DataW H) → Nat
  | [] => 0
  | d :: r => uptoBulk d + uptoBulkAll r
def uptoBulkEntries {H : Type} : List (Lit × DataW H) → Nat
  | [] => 0
  | x :: r => uptoBulkEntry x + uptoBulkEntries r
def uptoBulkEntry {H : Type} : Lit × DataW H → Nat
  | (.string bytes, d) => bytes.length + uptoBulk d + 1
  | (_, d) => uptoBulk d + 1
 end
def uptoSmall : (H : Type) → List (DataW H) → Bool := fun _ ds => decide (uptoBulkAll ds ≤ 1048576)
def OpenSpec.upto (s : _root_.Go.ChangeSpec) : _root_.Go.OpenSpec := { _root_.Go.OpenSpec.ofChange s with cond := some uptoSmall }

/-- 'morainelaw03.IkeyPacks', WHERE WHAT IT READS IS OF BULK AT MOST 1048576: true; the input reads as it did. -/
def ikeyPacksUptoRow : OpenClaim := { program := "ytdoolmomkffdaaa", sum := "ccabbf2fa6622dad8769c5bcda906576148fddb9a8751a2692d10fc401e7cbe8", func := "moraine/morainelaw03.IkeyPacks", spec := "ikeyPacks", apart := false, narrowed := true }
def IkeyPacksUptoSaid : Prop := ikeyPacksUptoRow.holds Try.pinned (OpenSpec.upto ikeyPacksSpec)

/-- 'morainelaw03.IkeyOrder', WHERE WHAT IT READS IS OF BULK AT MOST 1048576: true; the input reads as it did. -/
def ikeyOrderUptoRow : OpenClaim := { program := "ytdoolmomkffdaaa", sum := "ccabbf2fa6622dad8769c5bcda906576148fddb9a8751a2692d10fc401e7cbe8", func := "moraine/morainelaw03.IkeyOrder", spec := "ikeyOrder", inPlace := ["internal/bytealg.abigen_runtime_cmpstring"], apart := false, narrowed := true }
def IkeyOrderUptoSaid : Prop := ikeyOrderUptoRow.holds Try.pinned (OpenSpec.upto ikeyOrderSpec)

/-- 'morainelaw03.IkeyCompares', WHERE WHAT IT READS IS OF BULK AT MOST 1048576: true; the input reads as it did. -/
def ikeyComparesUptoRow : OpenClaim := { program := "ytdoolmomkffdaaa", sum := "ccabbf2fa6622dad8769c5bcda906576148fddb9a8751a2692d10fc401e7cbe8", func := "moraine/morainelaw03.IkeyCompares", spec := "ikeyCompares", inPlace := ["internal/bytealg.abigen_runtime_cmpstring"], apart := false, narrowed := true }
def IkeyComparesUptoSaid : Prop := ikeyComparesUptoRow.holds Try.pinned (OpenSpec.upto ikeyComparesSpec)

/-- 'morainelaw03.IkeyFirst', WHERE WHAT IT READS IS OF BULK AT MOST 1048576: true; the input reads as it did. -/
def ikeyFirstUptoRow : OpenClaim := { program := "ytdoolmomkffdaaa", sum := "ccabbf2fa6622dad8769c5bcda906576148fddb9a8751a2692d10fc401e7cbe8", func := "moraine/morainelaw03.IkeyFirst", spec := "ikeyFirst", inPlace := ["internal/bytealg.abigen_runtime_cmpstring"], apart := false, narrowed := true }
def IkeyFirstUptoSaid : Prop := ikeyFirstUptoRow.holds Try.pinned (OpenSpec.upto ikeyFirstSpec)

/-- 'morainelaw03.IkeyCodes', WHERE WHAT IT READS IS OF BULK AT MOST 1048576: true; the input reads as it did. -/
def ikeyCodesUptoRow : OpenClaim := { program := "ytdoolmomkffdaaa", sum := "ccabbf2fa6622dad8769c5bcda906576148fddb9a8751a2692d10fc401e7cbe8", func := "moraine/morainelaw03.IkeyCodes", spec := "ikeyCodes", apart := false, narrowed := true }
def IkeyCodesUptoSaid : Prop := ikeyCodesUptoRow.holds Try.pinned (OpenSpec.upto ikeyCodesSpec)

/-- 'morainelaw03.IkeyBack', WHERE WHAT IT READS IS OF BULK AT MOST 1048576: true; the input reads as it did. -/
def ikeyBackUptoRow : OpenClaim := { program := "ytdoolmomkffdaaa", sum := "ccabbf2fa6622dad8769c5bcda906576148fddb9a8751a2692d10fc401e7cbe8", func := "moraine/morainelaw03.IkeyBack", spec := "ikeyBack", apart := false, narrowed := true }
def IkeyBackUptoSaid : Prop := ikeyBackUptoRow.holds Try.pinned (OpenSpec.upto ikeyBackSpec)

/-- 'morainelaw03.IkeyShort', WHERE WHAT IT READS IS OF BULK AT MOST 1048576: true; the input reads as it did. -/
def ikeyShortUptoRow : OpenClaim := { program := "ytdoolmomkffdaaa", sum := "ccabbf2fa6622dad8769c5bcda906576148fddb9a8751a2692d10fc401e7cbe8", func := "moraine/morainelaw03.IkeyShort", spec := "ikeyShort", inPlace := ["internal/abi.NoEscape", "internal/bytealg.MakeNoZero"], apart := false, narrowed := true }
def IkeyShortUptoSaid : Prop := ikeyShortUptoRow.holds Try.pinned (OpenSpec.upto ikeyShortSpec)

/-- 'morainelaw03.IkeySeeks', WHERE WHAT IT READS IS OF BULK AT MOST 1048576: true; the input reads as it did. -/
def ikeySeeksUptoRow : OpenClaim := { program := "ytdoolmomkffdaaa", sum := "ccabbf2fa6622dad8769c5bcda906576148fddb9a8751a2692d10fc401e7cbe8", func := "moraine/morainelaw03.IkeySeeks", spec := "ikeySeeks", inPlace := ["internal/abi.NoEscape", "internal/bytealg.MakeNoZero"], apart := false, narrowed := true }
def IkeySeeksUptoSaid : Prop := ikeySeeksUptoRow.holds Try.pinned (OpenSpec.upto ikeySeeksSpec)

/-- 'morainelaw03.IkeySorts', WHERE WHAT IT READS IS OF BULK AT MOST 1048576: true; the input reads as it did. -/
def ikeySortsUptoRow : OpenClaim := { program := "ytdoolmomkffdaaa", sum := "ccabbf2fa6622dad8769c5bcda906576148fddb9a8751a2692d10fc401e7cbe8", func := "moraine/morainelaw03.IkeySorts", spec := "ikeySorts", inPlace := ["internal/bytealg.abigen_runtime_cmpstring"], unfollowed := true, recurses := true, apart := false, narrowed := true }
def IkeySortsUptoSaid : Prop := ikeySortsUptoRow.holds Try.pinned (OpenSpec.upto ikeySortsSpec)

end Rows
end Go.Proofs.Ytdoolmomkffdaaa
