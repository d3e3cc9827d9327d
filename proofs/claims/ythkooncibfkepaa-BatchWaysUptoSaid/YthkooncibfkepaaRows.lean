/-
  No cell of these rows narrows 'for every input' (looked for: loops, veiled, ifaces, maps, wideKeys, modest, calm, conditions, laid).
  DERIVED. THE GIVEN ROWS OF THIS SEAT. 11 by the template 'for every input the law returns true; each argument reads behind the call as it read before'; 0 by the template 'total and deterministic' (their statements: YthkooncibfkepaaTotals.lean).
  GIVEN WITH THE SEED: the statements are not yours to turn. If you find one false, say at which input.
  Laid BY PROGRAM, IN A SANDBOX (cutbox-rows.mjs): the forced cells as the released guide's own fill.sh prints them over the translation 18583684cf2c551f… (all of the seat's roots in one cut). By AI agents, Wed Nov 11 2026. No macro, syntax, notation, axiom, sorry.
-/
import Derived.Test.YthkooncibfkepaaChecked
import GoSem.Claim
import GoSem.ClaimJoined
import GoSem.ClaimMapViews
import Derived.JoinedTies
import Derived.KernelRfl
namespace Go.Proofs.Ythkooncibfkepaa
/- THE CELL 'sum', in the pinned program and in every row, IS THE sha256 OF THE DUMP (.gsa) THAT YthkooncibfkepaaProg.lean LOADS. Nothing in Lean hashes anything: it is a label: what it is worth is what the hold of that sum in a sandbox is worth. -/
noncomputable def Try.pinned : Pinned := { name := "ythkooncibfkepaa", sum := "18583684cf2c551f4caec6f036a6eaef8a0b834356ec59945478fde5938d4669", checked := Try.checked }
namespace Rows
def none {H : Type} : Left H := { results := [], args := [] }

/-- 'morainelaw04.BatchChecks': WHATEVER THE INPUT: true; the input reads as it did. -/
def batchChecksSpec : ChangeSpec := { name := "batchChecks", fn := fun _ => fun
  | [d] => { results := [.lit (.bool true)], args := [d] }
  | _ => none }
def batchChecksRow : OpenClaim := { program := "ythkooncibfkepaa", sum := "18583684cf2c551f4caec6f036a6eaef8a0b834356ec59945478fde5938d4669", func := "moraine/morainelaw04.BatchChecks", spec := "batchChecks", unfollowed := true, recurses := true, apart := false }
def BatchChecksSaid : Prop := batchChecksRow.holds Try.pinned (OpenSpec.ofChange batchChecksSpec)

/-- ITS FALSE NEIGHBOUR: 'it returns false'. Refute it at one input. -/
def batchChecksWrong : ChangeSpec := { name := "batchChecks", fn := fun _ => fun
  | [d] => { results := [.lit (.bool false)], args := [d] }
  | _ => none }
def BatchChecksWrongFalsely : Prop := batchChecksRow.holds Try.pinned (OpenSpec.ofChange batchChecksWrong)

/-- 'morainelaw04.BatchEncodes': WHATEVER THE INPUT: true; the input reads as it did. -/
def batchEncodesSpec : ChangeSpec := { name := "batchEncodes", fn := fun _ => fun
  | [d1, d2] => { results := [.lit (.bool true)], args := [d1, d2] }
  | _ => none }
def batchEncodesRow : OpenClaim := { program := "ythkooncibfkepaa", sum := "18583684cf2c551f4caec6f036a6eaef8a0b834356ec59945478fde5938d4669", func := "moraine/morainelaw04.BatchEncodes", spec := "batchEncodes", unfollowed := true, recurses := true, apart := false }
def BatchEncodesSaid : Prop := batchEncodesRow.holds Try.pinned (OpenSpec.ofChange batchEncodesSpec)

/-- ITS FALSE NEIGHBOUR: 'it returns false'. Refute it at one input. -/
def batchEncodesWrong : ChangeSpec := { name := "batchEncodes", fn := fun _ => fun
  | [d1, d2] => { results := [.lit (.bool false)], args := [d1, d2] }
  | _ => none }
def BatchEncodesWrongFalsely : Prop := batchEncodesRow.holds Try.pinned (OpenSpec.ofChange batchEncodesWrong)

/-- 'morainelaw04.BatchBuilds': WHATEVER THE INPUT: true; the input reads as it did. -/
def batchBuildsSpec : ChangeSpec := { name := "batchBuilds", fn := fun _ => fun
  | [d] => { results := [.lit (.bool true)], args := [d] }
  | _ => none }
def batchBuildsRow : OpenClaim := { program := "ythkooncibfkepaa", sum := "18583684cf2c551f4caec6f036a6eaef8a0b834356ec59945478fde5938d4669", func := "moraine/morainelaw04.BatchBuilds", spec := "batchBuilds", unfollowed := true, recurses := true, apart := false }
def BatchBuildsSaid : Prop := batchBuildsRow.holds Try.pinned (OpenSpec.ofChange batchBuildsSpec)

/-- ITS FALSE NEIGHBOUR: 'it returns false'. Refute it at one input. -/
def batchBuildsWrong : ChangeSpec := { name := "batchBuilds", fn := fun _ => fun
  | [d] => { results := [.lit (.bool false)], args := [d] }
  | _ => none }
def BatchBuildsWrongFalsely : Prop := batchBuildsRow.holds Try.pinned (OpenSpec.ofChange batchBuildsWrong)

/-- 'morainelaw04.BatchDecodes': WHATEVER THE INPUT: true; the input reads as it did. -/
def batchDecodesSpec : ChangeSpec := { name := "batchDecodes", fn := fun _ => fun
  | [d] => { results := [.lit (.bool true)], args := [d] }
  | _ => none }
def batchDecodesRow : OpenClaim := { program := "ythkooncibfkepaa", sum := "18583684cf2c551f4caec6f036a6eaef8a0b834356ec59945478fde5938d4669", func := "moraine/morainelaw04.BatchDecodes", spec := "batchDecodes", unfollowed := true, recurses := true, apart := false }
def BatchDecodesSaid : Prop := batchDecodesRow.holds Try.pinned (OpenSpec.ofChange batchDecodesSpec)

/-- ITS FALSE NEIGHBOUR: 'it returns false'. Refute it at one input. -/
def batchDecodesWrong : ChangeSpec := { name := "batchDecodes", fn := fun _ => fun
  | [d] => { results := [.lit (.bool false)], args := [d] }
  | _ => none }
def BatchDecodesWrongFalsely : Prop := batchDecodesRow.holds Try.pinned (OpenSpec.ofChange batchDecodesWrong)

/-- 'morainelaw04.BatchBack': WHATEVER THE INPUT: true; the input reads as it did. -/
def batchBackSpec : ChangeSpec := { name := "batchBack", fn := fun _ => fun
  | [d1, d2, d3] => { results := [.lit (.bool true)], args := [d1, d2, d3] }
  | _ => none }
def batchBackRow : OpenClaim := { program := "ythkooncibfkepaa", sum := "18583684cf2c551f4caec6f036a6eaef8a0b834356ec59945478fde5938d4669", func := "moraine/morainelaw04.BatchBack", spec := "batchBack", unfollowed := true, recurses := true, apart := false }
def BatchBackSaid : Prop := batchBackRow.holds Try.pinned (OpenSpec.ofChange batchBackSpec)

/-- ITS FALSE NEIGHBOUR: 'it returns false'. Refute it at one input. -/
def batchBackWrong : ChangeSpec := { name := "batchBack", fn := fun _ => fun
  | [d1, d2, d3] => { results := [.lit (.bool false)], args := [d1, d2, d3] }
  | _ => none }
def BatchBackWrongFalsely : Prop := batchBackRow.holds Try.pinned (OpenSpec.ofChange batchBackWrong)

/-- 'morainelaw04.BatchWalks': WHATEVER THE INPUT: true; the input reads as it did. -/
def batchWalksSpec : ChangeSpec := { name := "batchWalks", fn := fun _ => fun
  | [d1, d2] => { results := [.lit (.bool true)], args := [d1, d2] }
  | _ => none }
def batchWalksRow : OpenClaim := { program := "ythkooncibfkepaa", sum := "18583684cf2c551f4caec6f036a6eaef8a0b834356ec59945478fde5938d4669", func := "moraine/morainelaw04.BatchWalks", spec := "batchWalks", unfollowed := true, recurses := true, apart := false }
def BatchWalksSaid : Prop := batchWalksRow.holds Try.pinned (OpenSpec.ofChange batchWalksSpec)

/-- ITS FALSE NEIGHBOUR: 'it returns false'. Refute it at one input. -/
def batchWalksWrong : ChangeSpec := { name := "batchWalks", fn := fun _ => fun
  | [d1, d2] => { results := [.lit (.bool false)], args := [d1, d2] }
  | _ => none }
def BatchWalksWrongFalsely : Prop := batchWalksRow.holds Try.pinned (OpenSpec.ofChange batchWalksWrong)

/-- 'morainelaw04.BatchRenumbers': WHATEVER THE INPUT: true; the input reads as it did. -/
def batchRenumbersSpec : ChangeSpec := { name := "batchRenumbers", fn := fun _ => fun
  | [d1, d2] => { results := [.lit (.bool true)], args := [d1, d2] }
  | _ => none }
def batchRenumbersRow : OpenClaim := { program := "ythkooncibfkepaa", sum := "18583684cf2c551f4caec6f036a6eaef8a0b834356ec59945478fde5938d4669", func := "moraine/morainelaw04.BatchRenumbers", spec := "batchRenumbers", unfollowed := true, recurses := true, apart := false }
def BatchRenumbersSaid : Prop := batchRenumbersRow.holds Try.pinned (OpenSpec.ofChange batchRenumbersSpec)

/-- ITS FALSE NEIGHBOUR: 'it returns false'. Refute it at one input. -/
def batchRenumbersWrong : ChangeSpec := { name := "batchRenumbers", fn := fun _ => fun
  | [d1, d2] => { results := [.lit (.bool false)], args := [d1, d2] }
  | _ => none }
def BatchRenumbersWrongFalsely : Prop := batchRenumbersRow.holds Try.pinned (OpenSpec.ofChange batchRenumbersWrong)

/-- 'morainelaw04.BatchJoins': WHATEVER THE INPUT: true; the input reads as it did. -/
def batchJoinsSpec : ChangeSpec := { name := "batchJoins", fn := fun _ => fun
  | [d1, d2] => { results := [.lit (.bool true)], args := [d1, d2] }
  | _ => none }
def batchJoinsRow : OpenClaim := { program := "ythkooncibfkepaa", sum := "18583684cf2c551f4caec6f036a6eaef8a0b834356ec59945478fde5938d4669", func := "moraine/morainelaw04.BatchJoins", spec := "batchJoins", unfollowed := true, recurses := true, apart := false }
def BatchJoinsSaid : Prop := batchJoinsRow.holds Try.pinned (OpenSpec.ofChange batchJoinsSpec)

/-- ITS FALSE NEIGHBOUR: 'it returns false'. Refute it at one input. -/
def batchJoinsWrong : ChangeSpec := { name := "batchJoins", fn := fun _ => fun
  | [d1, d2] => { results := [.lit (.bool false)], args := [d1, d2] }
  | _ => none }
def BatchJoinsWrongFalsely : Prop := batchJoinsRow.holds Try.pinned (OpenSpec.ofChange batchJoinsWrong)

/-- 'morainelaw04.BatchGroups': WHATEVER THE INPUT: true; the input reads as it did. -/
def batchGroupsSpec : ChangeSpec := { name := "batchGroups", fn := fun _ => fun
  | [d1, d2, d3] => { results := [.lit (.bool true)], args := [d1, d2, d3] }
  | _ => none }
def batchGroupsRow : OpenClaim := { program := "ythkooncibfkepaa", sum := "18583684cf2c551f4caec6f036a6eaef8a0b834356ec59945478fde5938d4669", func := "moraine/morainelaw04.BatchGroups", spec := "batchGroups", unfollowed := true, recurses := true, apart := false }
def BatchGroupsSaid : Prop := batchGroupsRow.holds Try.pinned (OpenSpec.ofChange batchGroupsSpec)

/-- ITS FALSE NEIGHBOUR: 'it returns false'. Refute it at one input. -/
def batchGroupsWrong : ChangeSpec := { name := "batchGroups", fn := fun _ => fun
  | [d1, d2, d3] => { results := [.lit (.bool false)], args := [d1, d2, d3] }
  | _ => none }
def BatchGroupsWrongFalsely : Prop := batchGroupsRow.holds Try.pinned (OpenSpec.ofChange batchGroupsWrong)

/-- 'morainelaw04.BatchWhole': WHATEVER THE INPUT: true; the input reads as it did. -/
def batchWholeSpec : ChangeSpec := { name := "batchWhole", fn := fun _ => fun
  | [d1, d2, d3] => { results := [.lit (.bool true)], args := [d1, d2, d3] }
  | _ => none }
def batchWholeRow : OpenClaim := { program := "ythkooncibfkepaa", sum := "18583684cf2c551f4caec6f036a6eaef8a0b834356ec59945478fde5938d4669", func := "moraine/morainelaw04.BatchWhole", spec := "batchWhole", unfollowed := true, recurses := true, apart := false }
def BatchWholeSaid : Prop := batchWholeRow.holds Try.pinned (OpenSpec.ofChange batchWholeSpec)

/-- ITS FALSE NEIGHBOUR: 'it returns false'. Refute it at one input. -/
def batchWholeWrong : ChangeSpec := { name := "batchWhole", fn := fun _ => fun
  | [d1, d2, d3] => { results := [.lit (.bool false)], args := [d1, d2, d3] }
  | _ => none }
def BatchWholeWrongFalsely : Prop := batchWholeRow.holds Try.pinned (OpenSpec.ofChange batchWholeWrong)

/-- 'morainelaw04.BatchWays': WHATEVER THE INPUT: true; the input reads as it did. -/
def batchWaysSpec : ChangeSpec := { name := "batchWays", fn := fun _ => fun
  | [d1, d2] => { results := [.lit (.bool true)], args := [d1, d2] }
  | _ => none }
def batchWaysRow : OpenClaim := { program := "ythkooncibfkepaa", sum := "18583684cf2c551f4caec6f036a6eaef8a0b834356ec59945478fde5938d4669", func := "moraine/morainelaw04.BatchWays", spec := "batchWays", unfollowed := true, recurses := true, apart := false }
def BatchWaysSaid : Prop := batchWaysRow.holds Try.pinned (OpenSpec.ofChange batchWaysSpec)

/-- ITS FALSE NEIGHBOUR: 'it returns false'. Refute it at one input. -/
def batchWaysWrong : ChangeSpec := { name := "batchWays", fn := fun _ => fun
  | [d1, d2] => { results := [.lit (.bool false)], args := [d1, d2] }
  | _ => none }
def BatchWaysWrongFalsely : Prop := batchWaysRow.holds Try.pinned (OpenSpec.ofChange batchWaysWrong)

/- THE SECOND FORM. 'bulk': how many values and letters a reading holds, each counted each time it is reached (what is shared counts as often as it is met; a slice's spare places count too). A statement '..UptoSaid' is the law's where the arguments, and the package variables that the reading takes, are together of bulk at most 1048576: NARROWER than '..Said'. Prove '..Said' where nothing that the law and all that it calls make is longer than what came in: it says more and counts as full. Else prove '..UptoSaid'. A law counts once. -/
mutual
def uptoBulk {H : Type} : DataW H → Nat
  | .lit (.string bytes) => bytes.length + 1
  | .lit _ => 1
  | .nil => 1
  | .ptr d => uptoBulk d + 1
  | .slice elems spare => uptoBulkAll elems + uptoBulkAll spare + 1
  | .agg parts => uptoBulkAll parts + 1
  | .iface _ d => uptoBulk d + 1
  | .map entries => uptoBulkEntries entries + 1
  | .held _ => 1
def uptoBulkAll {H : Type} : List (DataW H) → Nat
  | [] => 0
  | d :: r => uptoBulk d + uptoBulkAll r
def uptoBulkEntries {H : Type} : List (Lit × DataW H) → Nat
  | [] => 0
  | x :: r => uptoBulkEntry x + uptoBulkEntries r
def uptoBulkEntry {H : Type} : Lit × DataW H → Nat
  | (.string bytes, d) => bytes.length + uptoBulk d + 1
  | (_, d) => uptoBulk d + 1
 end
def uptoSmall : (H : Type) → List (DataW H) → Bool := fun _ ds => decide (uptoBulkAll ds ≤ 1048576)
def OpenSpec.upto (s : _root_.Go.ChangeSpec) : _root_.Go.OpenSpec := { _root_.Go.OpenSpec.ofChange s with cond := some uptoSmall }

/-- 'morainelaw04.BatchChecks', WHERE WHAT IT READS IS OF BULK AT MOST 1048576: true; the input reads as it did. -/
def batchChecksUptoRow : OpenClaim := { program := "ythkooncibfkepaa", sum := "18583684cf2c551f4caec6f036a6eaef8a0b834356ec59945478fde5938d4669", func := "moraine/morainelaw04.BatchChecks", spec := "batchChecks", unfollowed := true, recurses := true, apart := false, narrowed := true }
def BatchChecksUptoSaid : Prop := batchChecksUptoRow.holds Try.pinned (OpenSpec.upto batchChecksSpec)

/-- 'morainelaw04.BatchEncodes', WHERE WHAT IT READS IS OF BULK AT MOST 1048576: true; the input reads as it did. -/
def batchEncodesUptoRow : OpenClaim := { program := "ythkooncibfkepaa", sum := "18583684cf2c551f4caec6f036a6eaef8a0b834356ec59945478fde5938d4669", func := "moraine/morainelaw04.BatchEncodes", spec := "batchEncodes", unfollowed := true, recurses := true, apart := false, narrowed := true }
def BatchEncodesUptoSaid : Prop := batchEncodesUptoRow.holds Try.pinned (OpenSpec.upto batchEncodesSpec)

/-- 'morainelaw04.BatchBuilds', WHERE WHAT IT READS IS OF BULK AT MOST 1048576: true; the input reads as it did. -/
def batchBuildsUptoRow : OpenClaim := { program := "ythkooncibfkepaa", sum := "18583684cf2c551f4caec6f036a6eaef8a0b834356ec59945478fde5938d4669", func := "moraine/morainelaw04.BatchBuilds", spec := "batchBuilds", unfollowed := true, recurses := true, apart := false, narrowed := true }
def BatchBuildsUptoSaid : Prop := batchBuildsUptoRow.holds Try.pinned (OpenSpec.upto batchBuildsSpec)

/-- 'morainelaw04.BatchDecodes', WHERE WHAT IT READS IS OF BULK AT MOST 1048576: true; the input reads as it did. -/
def batchDecodesUptoRow : OpenClaim := { program := "ythkooncibfkepaa", sum := "18583684cf2c551f4caec6f036a6eaef8a0b834356ec59945478fde5938d4669", func := "moraine/morainelaw04.BatchDecodes", spec := "batchDecodes", unfollowed := true, recurses := true, apart := false, narrowed := true }
def BatchDecodesUptoSaid : Prop := batchDecodesUptoRow.holds Try.pinned (OpenSpec.upto batchDecodesSpec)

/-- 'morainelaw04.BatchBack', WHERE WHAT IT READS IS OF BULK AT MOST 1048576: true; the input reads as it did. -/
def batchBackUptoRow : OpenClaim := { program := "ythkooncibfkepaa", sum := "18583684cf2c551f4caec6f036a6eaef8a0b834356ec59945478fde5938d4669", func := "moraine/morainelaw04.BatchBack", spec := "batchBack", unfollowed := true, recurses := true, apart := false, narrowed := true }
def BatchBackUptoSaid : Prop := batchBackUptoRow.holds Try.pinned (OpenSpec.upto batchBackSpec)

/-- 'morainelaw04.BatchWalks', WHERE WHAT IT READS IS OF BULK AT MOST 1048576: true; the input reads as it did. -/
def batchWalksUptoRow : OpenClaim := { program := "ythkooncibfkepaa", sum := "18583684cf2c551f4caec6f036a6eaef8a0b834356ec59945478fde5938d4669", func := "moraine/morainelaw04.BatchWalks", spec := "batchWalks", unfollowed := true, recurses := true, apart := false, narrowed := true }
def BatchWalksUptoSaid : Prop := batchWalksUptoRow.holds Try.pinned (OpenSpec.upto batchWalksSpec)

/-- 'morainelaw04.BatchRenumbers', WHERE WHAT IT READS IS OF BULK AT MOST 1048576: true; the input reads as it did. -/
def batchRenumbersUptoRow : OpenClaim := { program := "ythkooncibfkepaa", sum := "18583684cf2c551f4caec6f036a6eaef8a0b834356ec59945478fde5938d4669", func := "moraine/morainelaw04.BatchRenumbers", spec := "batchRenumbers", unfollowed := true, recurses := true, apart := false, narrowed := true }
def BatchRenumbersUptoSaid : Prop := batchRenumbersUptoRow.holds Try.pinned (OpenSpec.upto batchRenumbersSpec)

/-- 'morainelaw04.BatchJoins', WHERE WHAT IT READS IS OF BULK AT MOST 1048576: true; the input reads as it did. -/
def batchJoinsUptoRow : OpenClaim := { program := "ythkooncibfkepaa", sum := "18583684cf2c551f4caec6f036a6eaef8a0b834356ec59945478fde5938d4669", func := "moraine/morainelaw04.BatchJoins", spec := "batchJoins", unfollowed := true, recurses := true, apart := false, narrowed := true }
def BatchJoinsUptoSaid : Prop := batchJoinsUptoRow.holds Try.pinned (OpenSpec.upto batchJoinsSpec)

/-- 'morainelaw04.BatchGroups', WHERE WHAT IT READS IS OF BULK AT MOST 1048576: true; the input reads as it did. -/
def batchGroupsUptoRow : OpenClaim := { program := "ythkooncibfkepaa", sum := "18583684cf2c551f4caec6f036a6eaef8a0b834356ec59945478fde5938d4669", func := "moraine/morainelaw04.BatchGroups", spec := "batchGroups", unfollowed := true, recurses := true, apart := false, narrowed := true }
def BatchGroupsUptoSaid : Prop := batchGroupsUptoRow.holds Try.pinned (OpenSpec.upto batchGroupsSpec)

/-- 'morainelaw04.BatchWhole', WHERE WHAT IT READS IS OF BULK AT MOST 1048576: true; the input reads as it did. -/
def batchWholeUptoRow : OpenClaim := { program := "ythkooncibfkepaa", sum := "18583684cf2c551f4caec6f036a6eaef8a0b834356ec59945478fde5938d4669", func := "moraine/morainelaw04.BatchWhole", spec := "batchWhole", unfollowed := true, recurses := true, apart := false, narrowed := true }
def BatchWholeUptoSaid : Prop := batchWholeUptoRow.holds Try.pinned (OpenSpec.upto batchWholeSpec)

/-- 'morainelaw04.BatchWays', WHERE WHAT IT READS IS OF BULK AT MOST 1048576: true; the input reads as it did. -/
def batchWaysUptoRow : OpenClaim := { program := "ythkooncibfkepaa", sum := "18583684cf2c551f4caec6f036a6eaef8a0b834356ec59945478fde5938d4669", func := "moraine/morainelaw04.BatchWays", spec := "batchWays", unfollowed := true, recurses := true, apart := false, narrowed := true }
def BatchWaysUptoSaid : Prop := batchWaysUptoRow.holds Try.pinned (OpenSpec.upto batchWaysSpec)

end Rows
end Go.Proofs.Ythkooncibfkepaa
