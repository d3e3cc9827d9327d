/-
  NARROWER THAN 'FOR EVERY INPUT', by the rows' own cells (each row's printed sentence says how): CheckSums: laid · CheckBursts: laid · CheckLinear: laid · CheckPatches: laid · CheckForged: laid · CheckJoins: laid.
  DERIVED. THE GIVEN ROWS OF THIS SEAT. 6 by the template 'for every input the law returns true; each argument reads behind the call as it read before'; 0 by the template 'total and deterministic' (their statements: YtnapjjjomodmeaaDoorTotals.lean).
  GIVEN WITH THE SEED: the statements are not yours to turn. If you find one false, say at which input.
  Laid BY PROGRAM, IN A SANDBOX (cutbox-rows.mjs): the forced cells as the released guide's own fill.sh prints them over the translation e94087b4fd4a1e0d… (all of the seat's roots in one cut). By AI agents, Wed Nov 11 2026. No macro, syntax, notation, axiom, sorry.
-/
import Derived.Test.YtnapjjjomodmeaaDoorChecked
import GoSem.Claim
import GoSem.ClaimJoined
import GoSem.ClaimMapViews
import Derived.JoinedTies
import Derived.KernelRfl
namespace Go.Proofs.YtnapjjjomodmeaaDoor
/- THE CELL 'sum', in the pinned program and in every row, IS THE sha256 OF THE DUMP (.gsa) THAT YtnapjjjomodmeaaDoorProg.lean LOADS. Nothing in Lean hashes anything: it is a label: what it is worth is what the hold of that sum in a sandbox is worth. -/
noncomputable def Tryd.pinned : Pinned := { name := "ytnapjjjomodmeaadoor", sum := "e94087b4fd4a1e0d18027aae97c9d960c8ba551eeb8f802bbe25d174795e1b94", checked := Tryd.checked }
namespace Rows
def none {H : Type} : Left H := { results := [], args := [] }

/- WHAT THE LISTED PACKAGE-LEVEL VARIABLES READ AS WHEN THE CALL BEGINS. Each datum BY PROGRAM (the guide's laid-datum.mjs) off the statement by which the dump's own 'gosem.cut.vars' lays the variable. In a bare row this is a premise. The card (YtnapjjjomodmeaaDoorCards.lean) ties it to the program's text. -/
def laid_moraine_check_short {H : Type} : DataW H := .agg [.lit (.int .u32 0), .lit (.int .u32 274646895), .lit (.int .u32 549293790), .lit (.int .u32 820201905), .lit (.int .u32 1098587580), .lit (.int .u32 1361435347), .lit (.int .u32 1640403810), .lit (.int .u32 1905808397), .lit (.int .u32 2197175160), .lit (.int .u32 2460548119), .lit (.int .u32 2722870694), .lit (.int .u32 2987750089), .lit (.int .u32 3280807620), .lit (.int .u32 3553878443), .lit (.int .u32 3811616794), .lit (.int .u32 4084100981)]

/-- 'morainelaw02.CheckSums': WHATEVER THE INPUT: true; the input reads as it did. -/
def checkSumsSpec : ChangeSpec := { name := "checkSums", fn := fun _ => fun
  | [d1, d2] => { results := [.lit (.bool true)], args := [d1, d2] }
  | _ => none }
def checkSumsRow : OpenClaim := { program := "ytnapjjjomodmeaadoor", sum := "e94087b4fd4a1e0d18027aae97c9d960c8ba551eeb8f802bbe25d174795e1b94", func := "moraine/morainelaw02.CheckSums", spec := "checkSums", named := ["moraine/check.short"], apart := false, laid := [("moraine/check.short", laid_moraine_check_short)] }
def CheckSumsSaid : Prop := checkSumsRow.holds Tryd.pinned (OpenSpec.ofChange checkSumsSpec)

/-- ITS FALSE NEIGHBOUR: 'it returns false'. Refute it at one input. -/
def checkSumsWrong : ChangeSpec := { name := "checkSums", fn := fun _ => fun
  | [d1, d2] => { results := [.lit (.bool false)], args := [d1, d2] }
  | _ => none }
def CheckSumsWrongFalsely : Prop := checkSumsRow.holds Tryd.pinned (OpenSpec.ofChange checkSumsWrong)

/-- 'morainelaw02.CheckBursts': WHATEVER THE INPUT: true; the input reads as it did. -/
def checkBurstsSpec : ChangeSpec := { name := "checkBursts", fn := fun _ => fun
  | [d1, d2, d3] => { results := [.lit (.bool true)], args := [d1, d2, d3] }
  | _ => none }
def checkBurstsRow : OpenClaim := { program := "ytnapjjjomodmeaadoor", sum := "e94087b4fd4a1e0d18027aae97c9d960c8ba551eeb8f802bbe25d174795e1b94", func := "moraine/morainelaw02.CheckBursts", spec := "checkBursts", named := ["moraine/check.short"], apart := false, laid := [("moraine/check.short", laid_moraine_check_short)] }
def CheckBurstsSaid : Prop := checkBurstsRow.holds Tryd.pinned (OpenSpec.ofChange checkBurstsSpec)

/-- ITS FALSE NEIGHBOUR: 'it returns false'. Refute it at one input. -/
def checkBurstsWrong : ChangeSpec := { name := "checkBursts", fn := fun _ => fun
  | [d1, d2, d3] => { results := [.lit (.bool false)], args := [d1, d2, d3] }
  | _ => none }
def CheckBurstsWrongFalsely : Prop := checkBurstsRow.holds Tryd.pinned (OpenSpec.ofChange checkBurstsWrong)

/-- 'morainelaw02.CheckLinear': WHATEVER THE INPUT: true; the input reads as it did. -/
def checkLinearSpec : ChangeSpec := { name := "checkLinear", fn := fun _ => fun
  | [d1, d2, d3] => { results := [.lit (.bool true)], args := [d1, d2, d3] }
  | _ => none }
def checkLinearRow : OpenClaim := { program := "ytnapjjjomodmeaadoor", sum := "e94087b4fd4a1e0d18027aae97c9d960c8ba551eeb8f802bbe25d174795e1b94", func := "moraine/morainelaw02.CheckLinear", spec := "checkLinear", named := ["moraine/check.short"], apart := false, laid := [("moraine/check.short", laid_moraine_check_short)] }
def CheckLinearSaid : Prop := checkLinearRow.holds Tryd.pinned (OpenSpec.ofChange checkLinearSpec)

/-- ITS FALSE NEIGHBOUR: 'it returns false'. Refute it at one input. -/
def checkLinearWrong : ChangeSpec := { name := "checkLinear", fn := fun _ => fun
  | [d1, d2, d3] => { results := [.lit (.bool false)], args := [d1, d2, d3] }
  | _ => none }
def CheckLinearWrongFalsely : Prop := checkLinearRow.holds Tryd.pinned (OpenSpec.ofChange checkLinearWrong)

/-- 'morainelaw02.CheckPatches': WHATEVER THE INPUT: true; the input reads as it did. -/
def checkPatchesSpec : ChangeSpec := { name := "checkPatches", fn := fun _ => fun
  | [d1, d2] => { results := [.lit (.bool true)], args := [d1, d2] }
  | _ => none }
def checkPatchesRow : OpenClaim := { program := "ytnapjjjomodmeaadoor", sum := "e94087b4fd4a1e0d18027aae97c9d960c8ba551eeb8f802bbe25d174795e1b94", func := "moraine/morainelaw02.CheckPatches", spec := "checkPatches", named := ["moraine/check.short"], apart := false, laid := [("moraine/check.short", laid_moraine_check_short)] }
def CheckPatchesSaid : Prop := checkPatchesRow.holds Tryd.pinned (OpenSpec.ofChange checkPatchesSpec)

/-- ITS FALSE NEIGHBOUR: 'it returns false'. Refute it at one input. -/
def checkPatchesWrong : ChangeSpec := { name := "checkPatches", fn := fun _ => fun
  | [d1, d2] => { results := [.lit (.bool false)], args := [d1, d2] }
  | _ => none }
def CheckPatchesWrongFalsely : Prop := checkPatchesRow.holds Tryd.pinned (OpenSpec.ofChange checkPatchesWrong)

/-- 'morainelaw02.CheckForged': WHATEVER THE INPUT: true; the input reads as it did. -/
def checkForgedSpec : ChangeSpec := { name := "checkForged", fn := fun _ => fun
  | [d1, d2, d3] => { results := [.lit (.bool true)], args := [d1, d2, d3] }
  | _ => none }
def checkForgedRow : OpenClaim := { program := "ytnapjjjomodmeaadoor", sum := "e94087b4fd4a1e0d18027aae97c9d960c8ba551eeb8f802bbe25d174795e1b94", func := "moraine/morainelaw02.CheckForged", spec := "checkForged", named := ["moraine/check.short"], apart := false, laid := [("moraine/check.short", laid_moraine_check_short)] }
def CheckForgedSaid : Prop := checkForgedRow.holds Tryd.pinned (OpenSpec.ofChange checkForgedSpec)

/-- ITS FALSE NEIGHBOUR: 'it returns false'. Refute it at one input. -/
def checkForgedWrong : ChangeSpec := { name := "checkForged", fn := fun _ => fun
  | [d1, d2, d3] => { results := [.lit (.bool false)], args := [d1, d2, d3] }
  | _ => none }
def CheckForgedWrongFalsely : Prop := checkForgedRow.holds Tryd.pinned (OpenSpec.ofChange checkForgedWrong)

/-- 'morainelaw02.CheckJoins': WHATEVER THE INPUT: true; the input reads as it did. -/
def checkJoinsSpec : ChangeSpec := { name := "checkJoins", fn := fun _ => fun
  | [d1, d2, d3] => { results := [.lit (.bool true)], args := [d1, d2, d3] }
  | _ => none }
def checkJoinsRow : OpenClaim := { program := "ytnapjjjomodmeaadoor", sum := "e94087b4fd4a1e0d18027aae97c9d960c8ba551eeb8f802bbe25d174795e1b94", func := "moraine/morainelaw02.CheckJoins", spec := "checkJoins", named := ["moraine/check.short"], apart := false, laid := [("moraine/check.short", laid_moraine_check_short)] }
def CheckJoinsSaid : Prop := checkJoinsRow.holds Tryd.pinned (OpenSpec.ofChange checkJoinsSpec)

/-- ITS FALSE NEIGHBOUR: 'it returns false'. Refute it at one input. -/
def checkJoinsWrong : ChangeSpec := { name := "checkJoins", fn := fun _ => fun
  | [d1, d2, d3] => { results := [.lit (.bool false)], args := [d1, d2, d3] }
  | _ => none }
def CheckJoinsWrongFalsely : Prop := checkJoinsRow.holds Tryd.pinned (OpenSpec.ofChange checkJoinsWrong)

/- THE SECOND FORM. 'bulk': how many values and letters a reading holds, each counted each time it is reached (what is shared counts as often as it is met; a slice's spare places count too). A statement '..UptoSaid' is the law's where the arguments, and the package variables that the reading takes, are together of bulk at most 1048576: NARROWER than '..Said'. Prove '..Said' where nothing that the law and all that it calls make is longer than what came in: it says more and counts as full. Else prove '..UptoSaid'. A law counts once. -/
mutual
def uptoBulk {H : Type} : DataW H → Nat
  | .lit (.string bytes) => bytes.length + 1
  | .lit _ => 1
  | .nil => 1
  | .ptr d => uptoBulk d + 1
  | .slice elems spare => uptoBulkAll elems + uptoBulkAll spare + 1
  | .agg parts => uptoBulkAll parts + 1
  | .iface _ d => uptoBulk d + 1
  | .map entries => uptoBulkEntries entries + 1
  | .held _ => 1
def uptoBulkAll {H : Type} : List (DataW H) → Nat
  | [] => 0
  | d :: r => uptoBulk d + uptoBulkAll r
def uptoBulkEntries {H : Type} : List (Lit × DataW H) → Nat
  | [] => 0
  | x :: r => uptoBulkEntry x + uptoBulkEntries r
def uptoBulkEntry {H : Type} : Lit × DataW H → Nat
  | (.string bytes, d) => bytes.length + uptoBulk d + 1
  | (_, d) => uptoBulk d + 1
 end
def uptoSmall : (H : Type) → List (DataW H) → Bool := fun _ ds => decide (uptoBulkAll ds ≤ 1048576)
def OpenSpec.upto (s : _root_.Go.ChangeSpec) : _root_.Go.OpenSpec := { _root_.Go.OpenSpec.ofChange s with cond := some uptoSmall }

/-- 'morainelaw02.CheckSums', WHERE WHAT IT READS IS OF BULK AT MOST 1048576: true; the input reads as it did. -/
def checkSumsUptoRow : OpenClaim := { program := "ytnapjjjomodmeaadoor", sum := "e94087b4fd4a1e0d18027aae97c9d960c8ba551eeb8f802bbe25d174795e1b94", func := "moraine/morainelaw02.CheckSums", spec := "checkSums", named := ["moraine/check.short"], apart := false, laid := [("moraine/check.short", laid_moraine_check_short)], narrowed := true }
def CheckSumsUptoSaid : Prop := checkSumsUptoRow.holds Tryd.pinned (OpenSpec.upto checkSumsSpec)

/-- 'morainelaw02.CheckBursts', WHERE WHAT IT READS IS OF BULK AT MOST 1048576: true; the input reads as it did. -/
def checkBurstsUptoRow : OpenClaim := { program := "ytnapjjjomodmeaadoor", sum := "e94087b4fd4a1e0d18027aae97c9d960c8ba551eeb8f802bbe25d174795e1b94", func := "moraine/morainelaw02.CheckBursts", spec := "checkBursts", named := ["moraine/check.short"], apart := false, laid := [("moraine/check.short", laid_moraine_check_short)], narrowed := true }
def CheckBurstsUptoSaid : Prop := checkBurstsUptoRow.holds Tryd.pinned (OpenSpec.upto checkBurstsSpec)

/-- 'morainelaw02.CheckLinear', WHERE WHAT IT READS IS OF BULK AT MOST 1048576: true; the input reads as it did. -/
def checkLinearUptoRow : OpenClaim := { program := "ytnapjjjomodmeaadoor", sum := "e94087b4fd4a1e0d18027aae97c9d960c8ba551eeb8f802bbe25d174795e1b94", func := "moraine/morainelaw02.CheckLinear", spec := "checkLinear", named := ["moraine/check.short"], apart := false, laid := [("moraine/check.short", laid_moraine_check_short)], narrowed := true }
def CheckLinearUptoSaid : Prop := checkLinearUptoRow.holds Tryd.pinned (OpenSpec.upto checkLinearSpec)

/-- 'morainelaw02.CheckPatches', WHERE WHAT IT READS IS OF BULK AT MOST 1048576: true; the input reads as it did. -/
def checkPatchesUptoRow : OpenClaim := { program := "ytnapjjjomodmeaadoor", sum := "e94087b4fd4a1e0d18027aae97c9d960c8ba551eeb8f802bbe25d174795e1b94", func := "moraine/morainelaw02.CheckPatches", spec := "checkPatches", named := ["moraine/check.short"], apart := false, laid := [("moraine/check.short", laid_moraine_check_short)], narrowed := true }
def CheckPatchesUptoSaid : Prop := checkPatchesUptoRow.holds Tryd.pinned (OpenSpec.upto checkPatchesSpec)

/-- 'morainelaw02.CheckForged', WHERE WHAT IT READS IS OF BULK AT MOST 1048576: true; the input reads as it did. -/
def checkForgedUptoRow : OpenClaim := { program := "ytnapjjjomodmeaadoor", sum := "e94087b4fd4a1e0d18027aae97c9d960c8ba551eeb8f802bbe25d174795e1b94", func := "moraine/morainelaw02.CheckForged", spec := "checkForged", named := ["moraine/check.short"], apart := false, laid := [("moraine/check.short", laid_moraine_check_short)], narrowed := true }
def CheckForgedUptoSaid : Prop := checkForgedUptoRow.holds Tryd.pinned (OpenSpec.upto checkForgedSpec)

/-- 'morainelaw02.CheckJoins', WHERE WHAT IT READS IS OF BULK AT MOST 1048576: true; the input reads as it did. -/
def checkJoinsUptoRow : OpenClaim := { program := "ytnapjjjomodmeaadoor", sum := "e94087b4fd4a1e0d18027aae97c9d960c8ba551eeb8f802bbe25d174795e1b94", func := "moraine/morainelaw02.CheckJoins", spec := "checkJoins", named := ["moraine/check.short"], apart := false, laid := [("moraine/check.short", laid_moraine_check_short)], narrowed := true }
def CheckJoinsUptoSaid : Prop := checkJoinsUptoRow.holds Tryd.pinned (OpenSpec.upto checkJoinsSpec)

end Rows
end Go.Proofs.YtnapjjjomodmeaaDoor
