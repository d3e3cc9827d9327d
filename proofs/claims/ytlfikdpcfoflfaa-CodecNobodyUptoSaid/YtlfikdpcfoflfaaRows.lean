/-
  No cell of these rows narrows 'for every input' (looked for: loops, veiled, ifaces, maps, wideKeys, modest, calm, conditions, laid).
  DERIVED. THE GIVEN ROWS OF THIS SEAT. 7 by the template 'for every input the law returns true; each argument reads behind the call as it read before'; 0 by the template 'total and deterministic' (their statements: YtlfikdpcfoflfaaTotals.lean).
  GIVEN WITH THE SEED: the statements are not yours to turn. If you find one false, say at which input.
  Laid BY PROGRAM, IN A SANDBOX (cutbox-rows.mjs): the forced cells as the released guide's own fill.sh prints them over the translation af70cdc7b2971412… (all of the seat's roots in one cut). By AI agents, Wed Nov 11 2026. No macro, syntax, notation, axiom, sorry.
-/
import Derived.Test.YtlfikdpcfoflfaaChecked
import GoSem.Claim
import GoSem.ClaimJoined
import GoSem.ClaimMapViews
import Derived.JoinedTies
import Derived.KernelRfl
namespace Go.Proofs.Ytlfikdpcfoflfaa
/- THE CELL 'sum', in the pinned program and in every row, IS THE sha256 OF THE DUMP (.gsa) THAT YtlfikdpcfoflfaaProg.lean LOADS. Nothing in Lean hashes anything: it is a label: what it is worth is what the hold of that sum in a sandbox is worth. -/
noncomputable def Try.pinned : Pinned := { name := "ytlfikdpcfoflfaa", sum := "af70cdc7b29714127b061ffe8292adab3a764e7a65b77687bbabbd3b8b5d7912", checked := Try.checked }
namespace Rows
def none {H : Type} : Left H := { results := [], args := [] }

/-- 'morainelaw01.CodecSigns': WHATEVER THE INPUT: true; the input reads as it did. -/
def codecSignsSpec : ChangeSpec := { name := "codecSigns", fn := fun _ => fun
  | [d1, d2] => { results := [.lit (.bool true)], args := [d1, d2] }
  | _ => none }
def codecSignsRow : OpenClaim := { program := "ytlfikdpcfoflfaa", sum := "af70cdc7b29714127b061ffe8292adab3a764e7a65b77687bbabbd3b8b5d7912", func := "moraine/morainelaw01.CodecSigns", spec := "codecSigns", apart := false }
def CodecSignsSaid : Prop := codecSignsRow.holds Try.pinned (OpenSpec.ofChange codecSignsSpec)

/-- ITS FALSE NEIGHBOUR: 'it returns false'. Refute it at one input. -/
def codecSignsWrong : ChangeSpec := { name := "codecSigns", fn := fun _ => fun
  | [d1, d2] => { results := [.lit (.bool false)], args := [d1, d2] }
  | _ => none }
def CodecSignsWrongFalsely : Prop := codecSignsRow.holds Try.pinned (OpenSpec.ofChange codecSignsWrong)

/-- 'morainelaw01.CodecMirror': WHATEVER THE INPUT: true; the input reads as it did. -/
def codecMirrorSpec : ChangeSpec := { name := "codecMirror", fn := fun _ => fun
  | [d1, d2] => { results := [.lit (.bool true)], args := [d1, d2] }
  | _ => none }
def codecMirrorRow : OpenClaim := { program := "ytlfikdpcfoflfaa", sum := "af70cdc7b29714127b061ffe8292adab3a764e7a65b77687bbabbd3b8b5d7912", func := "moraine/morainelaw01.CodecMirror", spec := "codecMirror", apart := false }
def CodecMirrorSaid : Prop := codecMirrorRow.holds Try.pinned (OpenSpec.ofChange codecMirrorSpec)

/-- ITS FALSE NEIGHBOUR: 'it returns false'. Refute it at one input. -/
def codecMirrorWrong : ChangeSpec := { name := "codecMirror", fn := fun _ => fun
  | [d1, d2] => { results := [.lit (.bool false)], args := [d1, d2] }
  | _ => none }
def CodecMirrorWrongFalsely : Prop := codecMirrorRow.holds Try.pinned (OpenSpec.ofChange codecMirrorWrong)

/-- 'morainelaw01.CodecPuts': WHATEVER THE INPUT: true; the input reads as it did. -/
def codecPutsSpec : ChangeSpec := { name := "codecPuts", fn := fun _ => fun
  | [d1, d2, d3] => { results := [.lit (.bool true)], args := [d1, d2, d3] }
  | _ => none }
def codecPutsRow : OpenClaim := { program := "ytlfikdpcfoflfaa", sum := "af70cdc7b29714127b061ffe8292adab3a764e7a65b77687bbabbd3b8b5d7912", func := "moraine/morainelaw01.CodecPuts", spec := "codecPuts", apart := false }
def CodecPutsSaid : Prop := codecPutsRow.holds Try.pinned (OpenSpec.ofChange codecPutsSpec)

/-- ITS FALSE NEIGHBOUR: 'it returns false'. Refute it at one input. -/
def codecPutsWrong : ChangeSpec := { name := "codecPuts", fn := fun _ => fun
  | [d1, d2, d3] => { results := [.lit (.bool false)], args := [d1, d2, d3] }
  | _ => none }
def CodecPutsWrongFalsely : Prop := codecPutsRow.holds Try.pinned (OpenSpec.ofChange codecPutsWrong)

/-- 'morainelaw01.CodecForms': WHATEVER THE INPUT: true; the input reads as it did. -/
def codecFormsSpec : ChangeSpec := { name := "codecForms", fn := fun _ => fun
  | [d1, d2] => { results := [.lit (.bool true)], args := [d1, d2] }
  | _ => none }
def codecFormsRow : OpenClaim := { program := "ytlfikdpcfoflfaa", sum := "af70cdc7b29714127b061ffe8292adab3a764e7a65b77687bbabbd3b8b5d7912", func := "moraine/morainelaw01.CodecForms", spec := "codecForms", apart := false }
def CodecFormsSaid : Prop := codecFormsRow.holds Try.pinned (OpenSpec.ofChange codecFormsSpec)

/-- ITS FALSE NEIGHBOUR: 'it returns false'. Refute it at one input. -/
def codecFormsWrong : ChangeSpec := { name := "codecForms", fn := fun _ => fun
  | [d1, d2] => { results := [.lit (.bool false)], args := [d1, d2] }
  | _ => none }
def CodecFormsWrongFalsely : Prop := codecFormsRow.holds Try.pinned (OpenSpec.ofChange codecFormsWrong)

/-- 'morainelaw01.CodecReads': WHATEVER THE INPUT: true; the input reads as it did. -/
def codecReadsSpec : ChangeSpec := { name := "codecReads", fn := fun _ => fun
  | [d1, d2] => { results := [.lit (.bool true)], args := [d1, d2] }
  | _ => none }
def codecReadsRow : OpenClaim := { program := "ytlfikdpcfoflfaa", sum := "af70cdc7b29714127b061ffe8292adab3a764e7a65b77687bbabbd3b8b5d7912", func := "moraine/morainelaw01.CodecReads", spec := "codecReads", apart := false }
def CodecReadsSaid : Prop := codecReadsRow.holds Try.pinned (OpenSpec.ofChange codecReadsSpec)

/-- ITS FALSE NEIGHBOUR: 'it returns false'. Refute it at one input. -/
def codecReadsWrong : ChangeSpec := { name := "codecReads", fn := fun _ => fun
  | [d1, d2] => { results := [.lit (.bool false)], args := [d1, d2] }
  | _ => none }
def CodecReadsWrongFalsely : Prop := codecReadsRow.holds Try.pinned (OpenSpec.ofChange codecReadsWrong)

/-- 'morainelaw01.CodecBack': WHATEVER THE INPUT: true; the input reads as it did. -/
def codecBackSpec : ChangeSpec := { name := "codecBack", fn := fun _ => fun
  | [d1, d2, d3] => { results := [.lit (.bool true)], args := [d1, d2, d3] }
  | _ => none }
def codecBackRow : OpenClaim := { program := "ytlfikdpcfoflfaa", sum := "af70cdc7b29714127b061ffe8292adab3a764e7a65b77687bbabbd3b8b5d7912", func := "moraine/morainelaw01.CodecBack", spec := "codecBack", apart := false }
def CodecBackSaid : Prop := codecBackRow.holds Try.pinned (OpenSpec.ofChange codecBackSpec)

/-- ITS FALSE NEIGHBOUR: 'it returns false'. Refute it at one input. -/
def codecBackWrong : ChangeSpec := { name := "codecBack", fn := fun _ => fun
  | [d1, d2, d3] => { results := [.lit (.bool false)], args := [d1, d2, d3] }
  | _ => none }
def CodecBackWrongFalsely : Prop := codecBackRow.holds Try.pinned (OpenSpec.ofChange codecBackWrong)

/-- 'morainelaw01.CodecNobody': WHATEVER THE INPUT: true; the input reads as it did. -/
def codecNobodySpec : ChangeSpec := { name := "codecNobody", fn := fun _ => fun
  | [d] => { results := [.lit (.bool true)], args := [d] }
  | _ => none }
def codecNobodyRow : OpenClaim := { program := "ytlfikdpcfoflfaa", sum := "af70cdc7b29714127b061ffe8292adab3a764e7a65b77687bbabbd3b8b5d7912", func := "moraine/morainelaw01.CodecNobody", spec := "codecNobody", unfollowed := true, recurses := true, apart := false }
def CodecNobodySaid : Prop := codecNobodyRow.holds Try.pinned (OpenSpec.ofChange codecNobodySpec)

/-- ITS FALSE NEIGHBOUR: 'it returns false'. Refute it at one input. -/
def codecNobodyWrong : ChangeSpec := { name := "codecNobody", fn := fun _ => fun
  | [d] => { results := [.lit (.bool false)], args := [d] }
  | _ => none }
def CodecNobodyWrongFalsely : Prop := codecNobodyRow.holds Try.pinned (OpenSpec.ofChange codecNobodyWrong)

/- THE SECOND FORM. 'bulk': how many values and letters a reading holds, each counted each time it is reached (what is shared counts as often as it is met; a slice's spare places count too). A statement '..UptoSaid' is the law's where the arguments, and the package variables that the reading takes, are together of bulk at most 1048576: NARROWER than '..Said'. Prove '..Said' where nothing that the law and all that it calls make is longer than what came in: it says more and counts as full. Else prove '..UptoSaid'. A law counts once. -/
mutual
def uptoBulk {H : Type} : DataW H → Nat
  | .lit (.string bytes) => bytes.length + 1
  | .lit _ => 1
  | .nil => 1
  | .ptr d => uptoBulk d + 1
  | .slice elems spare => uptoBulkAll elems + uptoBulkAll spare + 1
  | .agg parts => uptoBulkAll parts + 1
  | .iface _ d => uptoBulk d + 1
  | .map entries => uptoBulkEntries entries + 1
  | .held _ => 1
def uptoBulkAll {H : Type} : List (DataW H) → Nat
  | [] => 0
  | d :: r => uptoBulk d + uptoBulkAll r
def uptoBulkEntries {H : Type} : List (Lit × DataW H) → Nat
  | [] => 0
  | x :: r => uptoBulkEntry x + uptoBulkEntries r
def uptoBulkEntry {H : Type} : Lit × DataW H → Nat
  | (.string bytes, d) => bytes.length + uptoBulk d + 1
  | (_, d) => uptoBulk d + 1
 end
def uptoSmall : (H : Type) → List (DataW H) → Bool := fun _ ds => decide (uptoBulkAll ds ≤ 1048576)
def OpenSpec.upto (s : _root_.Go.ChangeSpec) : _root_.Go.OpenSpec := { _root_.Go.OpenSpec.ofChange s with cond := some uptoSmall }

/-- 'morainelaw01.CodecSigns', WHERE WHAT IT READS IS OF BULK AT MOST 1048576: true; the input reads as it did. -/
def codecSignsUptoRow : OpenClaim := { program := "ytlfikdpcfoflfaa", sum := "af70cdc7b29714127b061ffe8292adab3a764e7a65b77687bbabbd3b8b5d7912", func := "moraine/morainelaw01.CodecSigns", spec := "codecSigns", apart := false, narrowed := true }
def CodecSignsUptoSaid : Prop := codecSignsUptoRow.holds Try.pinned (OpenSpec.upto codecSignsSpec)

/-- 'morainelaw01.CodecMirror', WHERE WHAT IT READS IS OF BULK AT MOST 1048576: true; the input reads as it did. -/
def codecMirrorUptoRow : OpenClaim := { program := "ytlfikdpcfoflfaa", sum := "af70cdc7b29714127b061ffe8292adab3a764e7a65b77687bbabbd3b8b5d7912", func := "moraine/morainelaw01.CodecMirror", spec := "codecMirror", apart := false, narrowed := true }
def CodecMirrorUptoSaid : Prop := codecMirrorUptoRow.holds Try.pinned (OpenSpec.upto codecMirrorSpec)

/-- 'morainelaw01.CodecPuts', WHERE WHAT IT READS IS OF BULK AT MOST 1048576: true; the input reads as it did. -/
def codecPutsUptoRow : OpenClaim := { program := "ytlfikdpcfoflfaa", sum := "af70cdc7b29714127b061ffe8292adab3a764e7a65b77687bbabbd3b8b5d7912", func := "moraine/morainelaw01.CodecPuts", spec := "codecPuts", apart := false, narrowed := true }
def CodecPutsUptoSaid : Prop := codecPutsUptoRow.holds Try.pinned (OpenSpec.upto codecPutsSpec)

/-- 'morainelaw01.CodecForms', WHERE WHAT IT READS IS OF BULK AT MOST 1048576: true; the input reads as it did. -/
def codecFormsUptoRow : OpenClaim := { program := "ytlfikdpcfoflfaa", sum := "af70cdc7b29714127b061ffe8292adab3a764e7a65b77687bbabbd3b8b5d7912", func := "moraine/morainelaw01.CodecForms", spec := "codecForms", apart := false, narrowed := true }
def CodecFormsUptoSaid : Prop := codecFormsUptoRow.holds Try.pinned (OpenSpec.upto codecFormsSpec)

/-- 'morainelaw01.CodecReads', WHERE WHAT IT READS IS OF BULK AT MOST 1048576: true; the input reads as it did. -/
def codecReadsUptoRow : OpenClaim := { program := "ytlfikdpcfoflfaa", sum := "af70cdc7b29714127b061ffe8292adab3a764e7a65b77687bbabbd3b8b5d7912", func := "moraine/morainelaw01.CodecReads", spec := "codecReads", apart := false, narrowed := true }
def CodecReadsUptoSaid : Prop := codecReadsUptoRow.holds Try.pinned (OpenSpec.upto codecReadsSpec)

/-- 'morainelaw01.CodecBack', WHERE WHAT IT READS IS OF BULK AT MOST 1048576: true; the input reads as it did. -/
def codecBackUptoRow : OpenClaim := { program := "ytlfikdpcfoflfaa", sum := "af70cdc7b29714127b061ffe8292adab3a764e7a65b77687bbabbd3b8b5d7912", func := "moraine/morainelaw01.CodecBack", spec := "codecBack", apart := false, narrowed := true }
def CodecBackUptoSaid : Prop := codecBackUptoRow.holds Try.pinned (OpenSpec.upto codecBackSpec)

/-- 'morainelaw01.CodecNobody', WHERE WHAT IT READS IS OF BULK AT MOST 1048576: true; the input reads as it did. -/
def codecNobodyUptoRow : OpenClaim := { program := "ytlfikdpcfoflfaa", sum := "af70cdc7b29714127b061ffe8292adab3a764e7a65b77687bbabbd3b8b5d7912", func := "moraine/morainelaw01.CodecNobody", spec := "codecNobody", unfollowed := true, recurses := true, apart := false, narrowed := true }
def CodecNobodyUptoSaid : Prop := codecNobodyUptoRow.holds Try.pinned (OpenSpec.upto codecNobodySpec)

end Rows
end Go.Proofs.Ytlfikdpcfoflfaa
