/-
  No cell of these rows narrows 'for every input' (looked for: loops, veiled, ifaces, maps, wideKeys, modest, calm, conditions, laid).
  DERIVED. THE GIVEN ROWS OF THIS SEAT. 3 by the template 'for every input the law returns true; each argument reads behind the call as it read before'; 0 by the template 'total and deterministic' (their statements: YtnapjjjomodmeaaTotals.lean).
  GIVEN WITH THE SEED: the statements are not yours to turn. If you find one false, say at which input.
  Laid BY PROGRAM, IN A SANDBOX (cutbox-rows.mjs): the forced cells as the released guide's own fill.sh prints them over the translation 9742e62c46f76d26… (all of the seat's roots in one cut). By AI agents, Wed Nov 11 2026. No macro, syntax, notation, axiom, sorry.
-/
import Derived.Test.YtnapjjjomodmeaaChecked
import GoSem.Claim
import GoSem.ClaimJoined
import GoSem.ClaimMapViews
import Derived.JoinedTies
import Derived.KernelRfl
namespace Go.Proofs.Ytnapjjjomodmeaa
/- THE CELL 'sum', in the pinned program and in every row, IS THE sha256 OF THE DUMP (.gsa) THAT YtnapjjjomodmeaaProg.lean LOADS. Nothing in Lean hashes anything: it is a label: what it is worth is what the hold of that sum in a sandbox is worth. -/
noncomputable def Try.pinned : Pinned := { name := "ytnapjjjomodmeaa", sum := "9742e62c46f76d265f90465c49674c362b5fec0af2cc4dc1a4388522f3c31a80", checked := Try.checked }
namespace Rows
def none {H : Type} : Left H := { results := [], args := [] }

/-- 'morainelaw02.CheckMasks': WHATEVER THE INPUT: true; the input reads as it did. -/
def checkMasksSpec : ChangeSpec := { name := "checkMasks", fn := fun _ => fun
  | [d] => { results := [.lit (.bool true)], args := [d] }
  | _ => none }
def checkMasksRow : OpenClaim := { program := "ytnapjjjomodmeaa", sum := "9742e62c46f76d265f90465c49674c362b5fec0af2cc4dc1a4388522f3c31a80", func := "moraine/morainelaw02.CheckMasks", spec := "checkMasks", apart := false }
def CheckMasksSaid : Prop := checkMasksRow.holds Try.pinned (OpenSpec.ofChange checkMasksSpec)

/-- ITS FALSE NEIGHBOUR: 'it returns false'. Refute it at one input. -/
def checkMasksWrong : ChangeSpec := { name := "checkMasks", fn := fun _ => fun
  | [d] => { results := [.lit (.bool false)], args := [d] }
  | _ => none }
def CheckMasksWrongFalsely : Prop := checkMasksRow.holds Try.pinned (OpenSpec.ofChange checkMasksWrong)

/-- 'morainelaw02.CheckZeros': WHATEVER THE INPUT: true; the input reads as it did. -/
def checkZerosSpec : ChangeSpec := { name := "checkZeros", fn := fun _ => fun
  | [d1, d2] => { results := [.lit (.bool true)], args := [d1, d2] }
  | _ => none }
def checkZerosRow : OpenClaim := { program := "ytnapjjjomodmeaa", sum := "9742e62c46f76d265f90465c49674c362b5fec0af2cc4dc1a4388522f3c31a80", func := "moraine/morainelaw02.CheckZeros", spec := "checkZeros", apart := false }
def CheckZerosSaid : Prop := checkZerosRow.holds Try.pinned (OpenSpec.ofChange checkZerosSpec)

/-- ITS FALSE NEIGHBOUR: 'it returns false'. Refute it at one input. -/
def checkZerosWrong : ChangeSpec := { name := "checkZeros", fn := fun _ => fun
  | [d1, d2] => { results := [.lit (.bool false)], args := [d1, d2] }
  | _ => none }
def CheckZerosWrongFalsely : Prop := checkZerosRow.holds Try.pinned (OpenSpec.ofChange checkZerosWrong)

/-- 'morainelaw02.CheckCombines': WHATEVER THE INPUT: true; the input reads as it did. -/
def checkCombinesSpec : ChangeSpec := { name := "checkCombines", fn := fun _ => fun
  | [d1, d2, d3] => { results := [.lit (.bool true)], args := [d1, d2, d3] }
  | _ => none }
def checkCombinesRow : OpenClaim := { program := "ytnapjjjomodmeaa", sum := "9742e62c46f76d265f90465c49674c362b5fec0af2cc4dc1a4388522f3c31a80", func := "moraine/morainelaw02.CheckCombines", spec := "checkCombines", apart := false }
def CheckCombinesSaid : Prop := checkCombinesRow.holds Try.pinned (OpenSpec.ofChange checkCombinesSpec)

/-- ITS FALSE NEIGHBOUR: 'it returns false'. Refute it at one input. -/
def checkCombinesWrong : ChangeSpec := { name := "checkCombines", fn := fun _ => fun
  | [d1, d2, d3] => { results := [.lit (.bool false)], args := [d1, d2, d3] }
  | _ => none }
def CheckCombinesWrongFalsely : Prop := checkCombinesRow.holds Try.pinned (OpenSpec.ofChange checkCombinesWrong)

/- THE SECOND FORM. 'bulk': how many values and letters a reading holds, each counted each time it is reached (what is shared counts as often as it is met; a slice's spare places count too). A statement '..UptoSaid' is the law's where the arguments, and the package variables that the reading takes, are together of bulk at most 1048576: NARROWER than '..Said'. Prove '..Said' where nothing that the law and all that it calls make is longer than what came in: it says more and counts as full. Else prove '..UptoSaid'. A law counts once. -/
mutual
def uptoBulk {H : Type} : DataW H → Nat
  | .lit (.string bytes) => bytes.length + 1
  | .lit _ => 1
  | .nil => 1
  | .ptr d => uptoBulk d + 1
  | .slice elems spare => uptoBulkAll elems + uptoBulkAll spare + 1
  | .agg parts => uptoBulkAll parts + 1
  | .iface _ d => uptoBulk d + 1
  | .map entries => uptoBulkEntries entries + 1
  | .held _ => 1
def uptoBulkAll {H : Type} : List (DataW H) → Nat
  | [] => 0
  | d :: r => uptoBulk d + uptoBulkAll r
def uptoBulkEntries {H : Type} : List (Lit × DataW H) → Nat
  | [] => 0
  | x :: r => uptoBulkEntry x + uptoBulkEntries r
def uptoBulkEntry {H : Type} : Lit × DataW H → Nat
  | (.string bytes, d) => bytes.length + uptoBulk d + 1
  | (_, d) => uptoBulk d + 1
 end
def uptoSmall : (H : Type) → List (DataW H) → Bool := fun _ ds => decide (uptoBulkAll ds ≤ 1048576)
def OpenSpec.upto (s : _root_.Go.ChangeSpec) : _root_.Go.OpenSpec := { _root_.Go.OpenSpec.ofChange s with cond := some uptoSmall }

/-- 'morainelaw02.CheckMasks', WHERE WHAT IT READS IS OF BULK AT MOST 1048576: true; the input reads as it did. -/
def checkMasksUptoRow : OpenClaim := { program := "ytnapjjjomodmeaa", sum := "9742e62c46f76d265f90465c49674c362b5fec0af2cc4dc1a4388522f3c31a80", func := "moraine/morainelaw02.CheckMasks", spec := "checkMasks", apart := false, narrowed := true }
def CheckMasksUptoSaid : Prop := checkMasksUptoRow.holds Try.pinned (OpenSpec.upto checkMasksSpec)

/-- 'morainelaw02.CheckZeros', WHERE WHAT IT READS IS OF BULK AT MOST 1048576: true; the input reads as it did. -/
def checkZerosUptoRow : OpenClaim := { program := "ytnapjjjomodmeaa", sum := "9742e62c46f76d265f90465c49674c362b5fec0af2cc4dc1a4388522f3c31a80", func := "moraine/morainelaw02.CheckZeros", spec := "checkZeros", apart := false, narrowed := true }
def CheckZerosUptoSaid : Prop := checkZerosUptoRow.holds Try.pinned (OpenSpec.upto checkZerosSpec)

/-- 'morainelaw02.CheckCombines', WHERE WHAT IT READS IS OF BULK AT MOST 1048576: true; the input reads as it did. -/
def checkCombinesUptoRow : OpenClaim := { program := "ytnapjjjomodmeaa", sum := "9742e62c46f76d265f90465c49674c362b5fec0af2cc4dc1a4388522f3c31a80", func := "moraine/morainelaw02.CheckCombines", spec := "checkCombines", apart := false, narrowed := true }
def CheckCombinesUptoSaid : Prop := checkCombinesUptoRow.holds Try.pinned (OpenSpec.upto checkCombinesSpec)

end Rows
end Go.Proofs.Ytnapjjjomodmeaa
