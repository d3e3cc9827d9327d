/-
  NARROWER THAN 'FOR EVERY INPUT', by the rows' own cells (each row's printed sentence says how): JournalNobody: laid · JournalWrites: laid · JournalOn: laid · JournalReads: laid · JournalBack: laid · JournalCuts: laid · JournalTurned: laid.
  DERIVED. THE GIVEN ROWS OF THIS SEAT. 7 by the template 'for every input the law returns true; each argument reads behind the call as it read before'; 0 by the template 'total and deterministic' (their statements: YtmpkigambfghgaaDoorTotals.lean).
  GIVEN WITH THE SEED: the statements are not yours to turn. If you find one false, say at which input.
  Laid BY PROGRAM, IN A SANDBOX (cutbox-rows.mjs): the forced cells as the released guide's own fill.sh prints them over the translation cd58cf7e85a58f32… (all of the seat's roots in one cut). By AI agents, Wed Nov 11 2026. No macro, syntax, notation, axiom, sorry.
-/
import Derived.Test.YtmpkigambfghgaaDoorChecked
import GoSem.Claim
import GoSem.ClaimJoined
import GoSem.ClaimMapViews
import Derived.JoinedTies
import Derived.KernelRfl
namespace Go.Proofs.YtmpkigambfghgaaDoor
/- THE CELL 'sum', in the pinned program and in every row, IS THE sha256 OF THE DUMP (.gsa) THAT YtmpkigambfghgaaDoorProg.lean LOADS. Nothing in Lean hashes anything: it is a label: what it is worth is what the hold of that sum in a sandbox is worth. -/
noncomputable def Tryd.pinned : Pinned := { name := "ytmpkigambfghgaadoor", sum := "cd58cf7e85a58f32f899c500968e0b244e384fc2a4103afceee99d63adc2f0fa", checked := Tryd.checked }
namespace Rows
def none {H : Type} : Left H := { results := [], args := [] }

/- WHAT THE LISTED PACKAGE-LEVEL VARIABLES READ AS WHEN THE CALL BEGINS. Each datum BY PROGRAM (the guide's laid-datum.mjs) off the statement by which the dump's own 'gosem.cut.vars' lays the variable. In a bare row this is a premise. The card (YtmpkigambfghgaaDoorCards.lean) ties it to the program's text. -/
def laid_moraine_check_short {H : Type} : DataW H := .agg [.lit (.int .u32 0), .lit (.int .u32 274646895), .lit (.int .u32 549293790), .lit (.int .u32 820201905), .lit (.int .u32 1098587580), .lit (.int .u32 1361435347), .lit (.int .u32 1640403810), .lit (.int .u32 1905808397), .lit (.int .u32 2197175160), .lit (.int .u32 2460548119), .lit (.int .u32 2722870694), .lit (.int .u32 2987750089), .lit (.int .u32 3280807620), .lit (.int .u32 3553878443), .lit (.int .u32 3811616794), .lit (.int .u32 4084100981)]

/-- 'morainelaw07.JournalNobody': WHATEVER THE INPUT: true; the input reads as it did. -/
def journalNobodySpec : ChangeSpec := { name := "journalNobody", fn := fun _ => fun
  | [d1, d2] => { results := [.lit (.bool true)], args := [d1, d2] }
  | _ => none }
def journalNobodyRow : OpenClaim := { program := "ytmpkigambfghgaadoor", sum := "cd58cf7e85a58f32f899c500968e0b244e384fc2a4103afceee99d63adc2f0fa", func := "moraine/morainelaw07.JournalNobody", spec := "journalNobody", named := ["moraine/check.short"], apart := false, laid := [("moraine/check.short", laid_moraine_check_short)] }
def JournalNobodySaid : Prop := journalNobodyRow.holds Tryd.pinned (OpenSpec.ofChange journalNobodySpec)

/-- ITS FALSE NEIGHBOUR: 'it returns false'. Refute it at one input. -/
def journalNobodyWrong : ChangeSpec := { name := "journalNobody", fn := fun _ => fun
  | [d1, d2] => { results := [.lit (.bool false)], args := [d1, d2] }
  | _ => none }
def JournalNobodyWrongFalsely : Prop := journalNobodyRow.holds Tryd.pinned (OpenSpec.ofChange journalNobodyWrong)

/-- 'morainelaw07.JournalWrites': WHATEVER THE INPUT: true; the input reads as it did. -/
def journalWritesSpec : ChangeSpec := { name := "journalWrites", fn := fun _ => fun
  | [d1, d2] => { results := [.lit (.bool true)], args := [d1, d2] }
  | _ => none }
def journalWritesRow : OpenClaim := { program := "ytmpkigambfghgaadoor", sum := "cd58cf7e85a58f32f899c500968e0b244e384fc2a4103afceee99d63adc2f0fa", func := "moraine/morainelaw07.JournalWrites", spec := "journalWrites", named := ["moraine/check.short"], apart := false, laid := [("moraine/check.short", laid_moraine_check_short)] }
def JournalWritesSaid : Prop := journalWritesRow.holds Tryd.pinned (OpenSpec.ofChange journalWritesSpec)

/-- ITS FALSE NEIGHBOUR: 'it returns false'. Refute it at one input. -/
def journalWritesWrong : ChangeSpec := { name := "journalWrites", fn := fun _ => fun
  | [d1, d2] => { results := [.lit (.bool false)], args := [d1, d2] }
  | _ => none }
def JournalWritesWrongFalsely : Prop := journalWritesRow.holds Tryd.pinned (OpenSpec.ofChange journalWritesWrong)

/-- 'morainelaw07.JournalOn': WHATEVER THE INPUT: true; the input reads as it did. -/
def journalOnSpec : ChangeSpec := { name := "journalOn", fn := fun _ => fun
  | [d1, d2] => { results := [.lit (.bool true)], args := [d1, d2] }
  | _ => none }
def journalOnRow : OpenClaim := { program := "ytmpkigambfghgaadoor", sum := "cd58cf7e85a58f32f899c500968e0b244e384fc2a4103afceee99d63adc2f0fa", func := "moraine/morainelaw07.JournalOn", spec := "journalOn", named := ["moraine/check.short"], apart := false, laid := [("moraine/check.short", laid_moraine_check_short)] }
def JournalOnSaid : Prop := journalOnRow.holds Tryd.pinned (OpenSpec.ofChange journalOnSpec)

/-- ITS FALSE NEIGHBOUR: 'it returns false'. Refute it at one input. -/
def journalOnWrong : ChangeSpec := { name := "journalOn", fn := fun _ => fun
  | [d1, d2] => { results := [.lit (.bool false)], args := [d1, d2] }
  | _ => none }
def JournalOnWrongFalsely : Prop := journalOnRow.holds Tryd.pinned (OpenSpec.ofChange journalOnWrong)

/-- 'morainelaw07.JournalReads': WHATEVER THE INPUT: true; the input reads as it did. -/
def journalReadsSpec : ChangeSpec := { name := "journalReads", fn := fun _ => fun
  | [d1, d2, d3] => { results := [.lit (.bool true)], args := [d1, d2, d3] }
  | _ => none }
def journalReadsRow : OpenClaim := { program := "ytmpkigambfghgaadoor", sum := "cd58cf7e85a58f32f899c500968e0b244e384fc2a4103afceee99d63adc2f0fa", func := "moraine/morainelaw07.JournalReads", spec := "journalReads", unfollowed := true, recurses := true, named := ["moraine/check.short"], apart := false, laid := [("moraine/check.short", laid_moraine_check_short)] }
def JournalReadsSaid : Prop := journalReadsRow.holds Tryd.pinned (OpenSpec.ofChange journalReadsSpec)

/-- ITS FALSE NEIGHBOUR: 'it returns false'. Refute it at one input. -/
def journalReadsWrong : ChangeSpec := { name := "journalReads", fn := fun _ => fun
  | [d1, d2, d3] => { results := [.lit (.bool false)], args := [d1, d2, d3] }
  | _ => none }
def JournalReadsWrongFalsely : Prop := journalReadsRow.holds Tryd.pinned (OpenSpec.ofChange journalReadsWrong)

/-- 'morainelaw07.JournalBack': WHATEVER THE INPUT: true; the input reads as it did. -/
def journalBackSpec : ChangeSpec := { name := "journalBack", fn := fun _ => fun
  | [d1, d2] => { results := [.lit (.bool true)], args := [d1, d2] }
  | _ => none }
def journalBackRow : OpenClaim := { program := "ytmpkigambfghgaadoor", sum := "cd58cf7e85a58f32f899c500968e0b244e384fc2a4103afceee99d63adc2f0fa", func := "moraine/morainelaw07.JournalBack", spec := "journalBack", unfollowed := true, recurses := true, named := ["moraine/check.short"], apart := false, laid := [("moraine/check.short", laid_moraine_check_short)] }
def JournalBackSaid : Prop := journalBackRow.holds Tryd.pinned (OpenSpec.ofChange journalBackSpec)

/-- ITS FALSE NEIGHBOUR: 'it returns false'. Refute it at one input. -/
def journalBackWrong : ChangeSpec := { name := "journalBack", fn := fun _ => fun
  | [d1, d2] => { results := [.lit (.bool false)], args := [d1, d2] }
  | _ => none }
def JournalBackWrongFalsely : Prop := journalBackRow.holds Tryd.pinned (OpenSpec.ofChange journalBackWrong)

/-- 'morainelaw07.JournalCuts': WHATEVER THE INPUT: true; the input reads as it did. -/
def journalCutsSpec : ChangeSpec := { name := "journalCuts", fn := fun _ => fun
  | [d1, d2, d3] => { results := [.lit (.bool true)], args := [d1, d2, d3] }
  | _ => none }
def journalCutsRow : OpenClaim := { program := "ytmpkigambfghgaadoor", sum := "cd58cf7e85a58f32f899c500968e0b244e384fc2a4103afceee99d63adc2f0fa", func := "moraine/morainelaw07.JournalCuts", spec := "journalCuts", unfollowed := true, recurses := true, named := ["moraine/check.short"], apart := false, laid := [("moraine/check.short", laid_moraine_check_short)] }
def JournalCutsSaid : Prop := journalCutsRow.holds Tryd.pinned (OpenSpec.ofChange journalCutsSpec)

/-- ITS FALSE NEIGHBOUR: 'it returns false'. Refute it at one input. -/
def journalCutsWrong : ChangeSpec := { name := "journalCuts", fn := fun _ => fun
  | [d1, d2, d3] => { results := [.lit (.bool false)], args := [d1, d2, d3] }
  | _ => none }
def JournalCutsWrongFalsely : Prop := journalCutsRow.holds Tryd.pinned (OpenSpec.ofChange journalCutsWrong)

/-- 'morainelaw07.JournalTurned': WHATEVER THE INPUT: true; the input reads as it did. -/
def journalTurnedSpec : ChangeSpec := { name := "journalTurned", fn := fun _ => fun
  | [d1, d2, d3] => { results := [.lit (.bool true)], args := [d1, d2, d3] }
  | _ => none }
def journalTurnedRow : OpenClaim := { program := "ytmpkigambfghgaadoor", sum := "cd58cf7e85a58f32f899c500968e0b244e384fc2a4103afceee99d63adc2f0fa", func := "moraine/morainelaw07.JournalTurned", spec := "journalTurned", unfollowed := true, recurses := true, named := ["moraine/check.short"], apart := false, laid := [("moraine/check.short", laid_moraine_check_short)] }
def JournalTurnedSaid : Prop := journalTurnedRow.holds Tryd.pinned (OpenSpec.ofChange journalTurnedSpec)

/-- ITS FALSE NEIGHBOUR: 'it returns false'. Refute it at one input. -/
def journalTurnedWrong : ChangeSpec := { name := "journalTurned", fn := fun _ => fun
  | [d1, d2, d3] => { results := [.lit (.bool false)], args := [d1, d2, d3] }
  | _ => none }
def JournalTurnedWrongFalsely : Prop := journalTurnedRow.holds Tryd.pinned (OpenSpec.ofChange journalTurnedWrong)

/- THE SECOND FORM. 'bulk': how many values and letters a reading holds, each counted each time it is reached (what is shared counts as often as it is met; a slice's spare places count too). A statement '..UptoSaid' is the law's where the arguments, and the package variables that the reading takes, are together of bulk at most 1048576: NARROWER than '..Said'. Prove '..Said' where nothing that the law and all that it calls make is longer than what came in: it says more and counts as full. Else prove '..UptoSaid'. A law counts once. -/
mutual
def uptoBulk {H : Type} : DataW H → Nat
  | .lit (.string bytes) => bytes.length + 1
  | .lit _ => 1
  | .nil => 1
  | .ptr d => uptoBulk d + 1
  | .slice elems spare => uptoBulkAll elems + uptoBulkAll spare + 1
  | .agg parts => uptoBulkAll parts + 1
  | .iface _ d => uptoBulk d + 1
  | .map entries => uptoBulkEntries entries + 1
  | .held _ => 1
def uptoBulkAll {H : Type} : List (DataW H) → Nat
  | [] => 0
  | d :: r => uptoBulk d + uptoBulkAll r
def uptoBulkEntries {H : Type} : List (Lit × DataW H) → Nat
  | [] => 0
  | x :: r => uptoBulkEntry x + uptoBulkEntries r
def uptoBulkEntry {H : Type} : Lit × DataW H → Nat
  | (.string bytes, d) => bytes.length + uptoBulk d + 1
  | (_, d) => uptoBulk d + 1
 end
def uptoSmall : (H : Type) → List (DataW H) → Bool := fun _ ds => decide (uptoBulkAll ds ≤ 1048576)
def OpenSpec.upto (s : _root_.Go.ChangeSpec) : _root_.Go.OpenSpec := { _root_.Go.OpenSpec.ofChange s with cond := some uptoSmall }

/-- 'morainelaw07.JournalNobody', WHERE WHAT IT READS IS OF BULK AT MOST 1048576: true; the input reads as it did. -/
def journalNobodyUptoRow : OpenClaim := { program := "ytmpkigambfghgaadoor", sum := "cd58cf7e85a58f32f899c500968e0b244e384fc2a4103afceee99d63adc2f0fa", func := "moraine/morainelaw07.JournalNobody", spec := "journalNobody", named := ["moraine/check.short"], apart := false, laid := [("moraine/check.short", laid_moraine_check_short)], narrowed := true }
def JournalNobodyUptoSaid : Prop := journalNobodyUptoRow.holds Tryd.pinned (OpenSpec.upto journalNobodySpec)

/-- 'morainelaw07.JournalWrites', WHERE WHAT IT READS IS OF BULK AT MOST 1048576: true; the input reads as it did. -/
def journalWritesUptoRow : OpenClaim := { program := "ytmpkigambfghgaadoor", sum := "cd58cf7e85a58f32f899c500968e0b244e384fc2a4103afceee99d63adc2f0fa", func := "moraine/morainelaw07.JournalWrites", spec := "journalWrites", named := ["moraine/check.short"], apart := false, laid := [("moraine/check.short", laid_moraine_check_short)], narrowed := true }
def JournalWritesUptoSaid : Prop := journalWritesUptoRow.holds Tryd.pinned (OpenSpec.upto journalWritesSpec)

/-- 'morainelaw07.JournalOn', WHERE WHAT IT READS IS OF BULK AT MOST 1048576: true; the input reads as it did. -/
def journalOnUptoRow : OpenClaim := { program := "ytmpkigambfghgaadoor", sum := "cd58cf7e85a58f32f899c500968e0b244e384fc2a4103afceee99d63adc2f0fa", func := "moraine/morainelaw07.JournalOn", spec := "journalOn", named := ["moraine/check.short"], apart := false, laid := [("moraine/check.short", laid_moraine_check_short)], narrowed := true }
def JournalOnUptoSaid : Prop := journalOnUptoRow.holds Tryd.pinned (OpenSpec.upto journalOnSpec)

/-- 'morainelaw07.JournalReads', WHERE WHAT IT READS IS OF BULK AT MOST 1048576: true; the input reads as it did. -/
def journalReadsUptoRow : OpenClaim := { program := "ytmpkigambfghgaadoor", sum := "cd58cf7e85a58f32f899c500968e0b244e384fc2a4103afceee99d63adc2f0fa", func := "moraine/morainelaw07.JournalReads", spec := "journalReads", unfollowed := true, recurses := true, named := ["moraine/check.short"], apart := false, laid := [("moraine/check.short", laid_moraine_check_short)], narrowed := true }
def JournalReadsUptoSaid : Prop := journalReadsUptoRow.holds Tryd.pinned (OpenSpec.upto journalReadsSpec)

/-- 'morainelaw07.JournalBack', WHERE WHAT IT READS IS OF BULK AT MOST 1048576: true; the input reads as it did. -/
def journalBackUptoRow : OpenClaim := { program := "ytmpkigambfghgaadoor", sum := "cd58cf7e85a58f32f899c500968e0b244e384fc2a4103afceee99d63adc2f0fa", func := "moraine/morainelaw07.JournalBack", spec := "journalBack", unfollowed := true, recurses := true, named := ["moraine/check.short"], apart := false, laid := [("moraine/check.short", laid_moraine_check_short)], narrowed := true }
def JournalBackUptoSaid : Prop := journalBackUptoRow.holds Tryd.pinned (OpenSpec.upto journalBackSpec)

/-- 'morainelaw07.JournalCuts', WHERE WHAT IT READS IS OF BULK AT MOST 1048576: true; the input reads as it did. -/
def journalCutsUptoRow : OpenClaim := { program := "ytmpkigambfghgaadoor", sum := "cd58cf7e85a58f32f899c500968e0b244e384fc2a4103afceee99d63adc2f0fa", func := "moraine/morainelaw07.JournalCuts", spec := "journalCuts", unfollowed := true, recurses := true, named := ["moraine/check.short"], apart := false, laid := [("moraine/check.short", laid_moraine_check_short)], narrowed := true }
def JournalCutsUptoSaid : Prop := journalCutsUptoRow.holds Tryd.pinned (OpenSpec.upto journalCutsSpec)

/-- 'morainelaw07.JournalTurned', WHERE WHAT IT READS IS OF BULK AT MOST 1048576: true; the input reads as it did. -/
def journalTurnedUptoRow : OpenClaim := { program := "ytmpkigambfghgaadoor", sum := "cd58cf7e85a58f32f899c500968e0b244e384fc2a4103afceee99d63adc2f0fa", func := "moraine/morainelaw07.JournalTurned", spec := "journalTurned", unfollowed := true, recurses := true, named := ["moraine/check.short"], apart := false, laid := [("moraine/check.short", laid_moraine_check_short)], narrowed := true }
def JournalTurnedUptoSaid : Prop := journalTurnedUptoRow.holds Tryd.pinned (OpenSpec.upto journalTurnedSpec)

end Rows
end Go.Proofs.YtmpkigambfghgaaDoor
