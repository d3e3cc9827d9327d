/- Contracts typed by hand: CheckPatches holds of every input within the form's reach -/
import Derived.Test.YtnapjjjomodmeaaDoorProg
import Derived.Below
import Derived.Deep.Draws
import Derived.Deep.AppendLies
import Derived.Maps.AppendAt
import Derived.OwnWalk
import Derived.Laws.BytesArg
import Derived.Laws.MakeOwn
import Derived.Laws.OwnMore
import Derived.Deep.OwnRows
import Derived.Tactics
import Derived.Lib.ConvBytes
import Derived.Laws.Slices
import Derived.WalkKit
import Derived.KernelRfl
import Derived.RowKit3
import Derived.Deep.LoopGhost
import Derived.Deep.QuietTactic
import Derived.BigQuiet
import Derived.WideLaws
import Derived.Deep.DeepCutAuto
import Derived.Deep.CutBlock
import Derived.Deep.RegionHeld3
import Derived.Laws.Rows
import Derived.Lib.AppendStr
import Derived.ArgAppend
import Derived.Laws.IdiomCopy
import Derived.OrdersHeld
import Derived.Laws.BitsLemmas
import Derived.RowKit
import Derived.Test.YtnapjjjomodmeaaDoorWWords
import Derived.Test.YtnapjjjomodmeaaDoorWLast
import Derived.Test.YtnapjjjomodmeaaDoorWTab
import Derived.Test.YtnapjjjomodmeaaDoorWFour
import Derived.Test.YtnapjjjomodmeaaDoorWQPut
import Derived.Test.YtnapjjjomodmeaaDoorWApart
import Derived.Test.YtnapjjjomodmeaaDoorWArr
import Derived.Test.YtnapjjjomodmeaaDoorWZeros
import Derived.Test.YtnapjjjomodmeaaDoorWFoot
import Derived.Test.YtnapjjjomodmeaaDoorWKept
import Derived.Test.YtnapjjjomodmeaaDoorWShare
import Derived.Test.YtnapjjjomodmeaaDoorWN
import Derived.Test.YtnapjjjomodmeaaDoorWFootNe
import Derived.Test.YtnapjjjomodmeaaDoorWAt
import Derived.Test.YtnapjjjomodmeaaDoorWEqStruct
import Derived.Test.YtnapjjjomodmeaaDoorWRepsOne
import Derived.Test.YtnapjjjomodmeaaDoorWInv
import Derived.Test.YtnapjjjomodmeaaDoorWInvWords
import Derived.Test.YtnapjjjomodmeaaDoorWGuard
import Derived.Test.YtnapjjjomodmeaaDoorWNEv
import Derived.Test.YtnapjjjomodmeaaDoorWMore
import Derived.Test.YtnapjjjomodmeaaDoorLawCheckForged
import Derived.Test.YtnapjjjomodmeaaDoorGx16
namespace Go.Proofs.YtnapjjjomodmeaaDoor.G
open Go.RowKit Go.Proofs.YtnapjjjomodmeaaDoorW.PrintWords Go.Proofs.YtnapjjjomodmeaaDoorW.PrintLast Go.Proofs.YtnapjjjomodmeaaDoorW.PrintMore
attribute [local go_sem] max2_int min2_int max_two min_two max_three min_three max_four min_four
set_option linter.unusedVariables false
set_option linter.unusedSimpArgs false

/-! CheckPatches holds of every input within the form's reach -/
theorem patches_loop (s t : Nat) (hs : s < 4294967296) (ht : t < 4294967296) : ∀ (d i k : Nat) (p : List Int), i + d = p.length → p.length ≤ 100 → morainelaw02_CheckPatches.l0 (k + 40 + d + 1) (s : Int) (t : Int) p (four (pat s t)) (i : Int) = some true
  | 0, i, k, p, hi, hp => by
    rw [morainelaw02_CheckPatches.l0, if_neg (by omega), (patch_eq (k + 40 + 0) s t hs ht (by omega)).2, Option.bind_some, beq_self_eq_true]
  | d + 1, i, k, p, hi, hp => by
    have c0 : (i : Int) < (p.length : Int) := by omega
    have c1 : 0 ≤ (i : Int) := by omega
    have e5 : wrap64 ((i : Int) + 1) = ((i + 1 : Nat) : Int) := (wr _ (by omega) (by omega)).trans (by omega)
    rw [show k + 40 + (d + 1) + 1 = (k + 40 + d + 1) + 1 by omega, morainelaw02_CheckPatches.l0, if_pos c0, if_pos c1, e5]
    exact patches_loop s t hs ht d (i + 1) k _ (by rw [List.length_set]; omega) (by rw [List.length_set]; omega)
theorem CheckPatches_pure (s t : Nat) (hs : s < 4294967296) (ht : t < 4294967296) : morainelaw02_CheckPatches.f 100 (s : Int) (t : Int) = some true := by
  have fl : ∀ x, (four x).length = 4 := fun x => rfl
  have e1 := patch_eq 100 s t hs ht (by omega)
  have e2 := extend_eq 100 s (four (pat s t)) hs (four_byt _) (by rw [fl]; omega) (by rw [fl]; omega)
  rw [pat_does s t hs ht] at e2
  unfold morainelaw02_CheckPatches.f
  rw [e1.1, Option.bind_some, Option.bind_some, e1.2, Option.bind_some, if_pos rfl, e2, Option.bind_some]
  have hne : ((t : Int) != (t : Int)) = false := by simp
  rw [hne, show (100 : Nat) = 99 + 1 by rfl, morainelaw02_CheckPatches.j0, if_neg Bool.false_ne_true]
  exact patches_loop s t hs ht 4 0 54 _ rfl (by rw [fl]; omega)
theorem CheckPatches_upto (w : World) (a0 : Int) (hg0 : (Lit.int .u32 a0).wf = true) (a1 : Int) (hg1 : (Lit.int .u32 a1).wf = true) (hbulk : 1 + 1 ≤ 1048576) (hTab : TabAt w) :
    Calls Tryd.prog 6 #[.int .u32 a0, .int .u32 a1] w fun e w' => e = .returned (.bool true) ∧ Below w.heap.size w w' := by
  have q1 := u32_range hg0
  have q2 := u32_range hg1
  obtain ⟨s, rfl⟩ := Int.eq_ofNat_of_zero_le q1.1
  obtain ⟨t, rfl⟩ := Int.eq_ofNat_of_zero_le q2.1
  exact morainelaw02_CheckPatches.calls 100 _ _ true w (CheckPatches_pure s t (by omega) (by omega)) hTab

end Go.Proofs.YtnapjjjomodmeaaDoor.G
