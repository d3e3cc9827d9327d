/- Contracts typed by hand: of, one: matrices of 32 registers in arrays -/
import Derived.Test.YtnapjjjomodmeaaDoorProg
import Derived.Below
import Derived.Deep.Draws
import Derived.Deep.AppendLies
import Derived.Maps.AppendAt
import Derived.OwnWalk
import Derived.Laws.BytesArg
import Derived.Laws.MakeOwn
import Derived.Laws.OwnMore
import Derived.Deep.OwnRows
import Derived.Tactics
import Derived.Lib.ConvBytes
import Derived.Laws.Slices
import Derived.WalkKit
import Derived.KernelRfl
import Derived.RowKit3
import Derived.Deep.LoopGhost
import Derived.Deep.QuietTactic
import Derived.BigQuiet
import Derived.WideLaws
import Derived.Deep.DeepCutAuto
import Derived.Deep.CutBlock
import Derived.Deep.RegionHeld3
import Derived.Laws.Rows
import Derived.Lib.AppendStr
import Derived.ArgAppend
import Derived.Laws.IdiomCopy
import Derived.OrdersHeld
import Derived.Laws.BitsLemmas
import Derived.RowKit
import Derived.Test.YtnapjjjomodmeaaDoorWWords
import Derived.Test.YtnapjjjomodmeaaDoorWLast
import Derived.Test.YtnapjjjomodmeaaDoorWTab
import Derived.Test.YtnapjjjomodmeaaDoorWFour
import Derived.Test.YtnapjjjomodmeaaDoorWQPut
import Derived.Test.YtnapjjjomodmeaaDoorWApart
import Derived.Test.YtnapjjjomodmeaaDoorWArr
import Derived.Test.YtnapjjjomodmeaaDoorWZeros
import Derived.Test.YtnapjjjomodmeaaDoorWFoot
import Derived.Test.YtnapjjjomodmeaaDoorWKept
import Derived.Test.YtnapjjjomodmeaaDoorWShare
import Derived.Test.YtnapjjjomodmeaaDoorWN
import Derived.Test.YtnapjjjomodmeaaDoorWFootNe
import Derived.Test.YtnapjjjomodmeaaDoorWAt
import Derived.Test.YtnapjjjomodmeaaDoorWEqStruct
import Derived.Test.YtnapjjjomodmeaaDoorWRepsOne
import Derived.Test.YtnapjjjomodmeaaDoorWInv
import Derived.Test.YtnapjjjomodmeaaDoorWInvWords
import Derived.Test.YtnapjjjomodmeaaDoorWGuard
import Derived.Test.YtnapjjjomodmeaaDoorWNEv
import Derived.Test.YtnapjjjomodmeaaDoorWMore
import Derived.Test.YtnapjjjomodmeaaDoorPureArr02
namespace Go.Proofs.YtnapjjjomodmeaaDoor.G
open Go.RowKit Go.Proofs.YtnapjjjomodmeaaDoorW.PrintWords Go.Proofs.YtnapjjjomodmeaaDoorW.PrintLast Go.Proofs.YtnapjjjomodmeaaDoorW.PrintMore
attribute [local go_sem] max2_int min2_int max_two min_two max_three min_three max_four min_four
set_option linter.unusedVariables false
set_option linter.unusedSimpArgs false

/-! of, one: matrices of 32 registers in arrays -/
set_option maxHeartbeats 2000000 in
theorem of_calls (t : List Nat) (r : Nat) (w : World) (ht : Reg t) (hr : r < 4294967296) : Calls Tryd.prog 36 #[.agg (ac t), .int .u32 (r : Int)] w fun e w' => e = .returned (.int .u32 ((mapTo t 32 r : Nat) : Int)) ∧ Below w.heap.size w w' := by
  have HR := Aside0.mk ht
  have hlen := ht.len
  have HL := Aside0.mk hlen
  have HA := Aside0.mk (ArrAt.fresh w 58 t)
  have HB := Aside0.mk (below_alloc (Below.refl w.heap.size w) (.cells (ac t) 58))
  clear ht hlen
  go_enter Tryd.func36, Tryd.ntmps36
  go_wp2
  go_loop [5, 7] (fun v5 v7 => ∃ (k : Nat), k ≤ 32 ∧ v7 = .int .i64 (k : Int) ∧ v5 = .int .u32 ((mapTo t k r : Nat) : Int)) (fun _ v7 => 32 - (intOf v7).toNat)
  case atStart => exact ⟨0, by omega, rfl, rfl⟩
  case round =>
    obtain ⟨k, hk, rfl, rfl⟩ := hrel
    by_cases hk2 : k < 32
    · have hd : (r : Int) / 2 ^ k = ((r / 2 ^ k : Nat) : Int) := by push_cast; rfl
      have hy : r / 2 ^ k < 4294967296 := Nat.lt_of_le_of_lt (Nat.div_le_self _ _) hr
      have ha := and1_nat _ hy
      have hcell := HA.out.cell k (by rw [HL.out]; exact hk2)
      have hx := u32_xor_nat (mapTo t k r) (t.getD k 0) (mapTo_lt HR.out r k hk) (HR.out.low k hk2)
      have b1 : decide ((k : Int) < 32) = true := decide_eq_true (by omega)
      have c1 : (0 : Int) ≤ (k : Int) := Int.natCast_nonneg _
      have c2 : (k : Int) < 32 := by omega
      have hstep : mapTo t (k + 1) r = mapTo t k r ^^^ (if r.testBit k = true then t.getD k 0 else 0) := rfl
      by_cases hb : r / 2 ^ k % 2 = 1
      · rw [bit_on hb, if_pos rfl] at hstep
        rw [hb, show ((1 : Nat) : Int) = 1 by rfl] at ha
        have HS := Aside0.mk hstep
        clear hstep hb
        generalize r / 2 ^ k = y at *
        generalize mapTo t k r = m at *
        generalize t.getD k 0 = c at *
        go_wp2
        go_round
        case rel => exact ⟨k + 1, by omega, by go_num, by rw [HS.out]⟩
        case measure => simp [intOf]; omega
      · rw [bit_off hb, if_neg Bool.false_ne_true, Nat.xor_zero] at hstep
        have hb0 : r / 2 ^ k % 2 = 0 := by omega
        rw [hb0, show ((0 : Nat) : Int) = 0 by rfl] at ha
        have HS := Aside0.mk hstep
        clear hstep hb hb0
        generalize r / 2 ^ k = y at *
        go_wp2
        go_round
        case rel => exact ⟨k + 1, by omega, by go_num, by rw [HS.out]⟩
        case measure => simp [intOf]; omega
    · obtain rfl : k = 32 := by omega
      go_wp2
      go_ret
      exact ⟨rfl, HB.out⟩
theorem hi38 : (Tryd.prog.info? 58).map (·.size) = some 32 := by kernel_rfl
set_option maxHeartbeats 2000000 in
theorem one_calls (w : World) : Calls Tryd.prog 34 #[] w fun e w' => e = .returned (.agg (ac oneL)) ∧ Below w.heap.size w w' := by
  have HA := Aside0.mk (ArrAt.fresh w 58 (fill oneL 1))
  have HB := Aside0.mk (below_alloc (Below.refl w.heap.size w) (.cells (ac (fill oneL 1)) 58))
  go_enter Tryd.func34, Tryd.ntmps34
  go_wp2_with fail
  go_loopw [1] (fun v1 wr => ∃ (j : Nat), v1 = .int .i64 ((j + 1 : Nat) : Int) ∧ j ≤ 31 ∧ Aside0 (ArrAt wr w.heap.size 58 (fill oneL (j + 1))) ∧ Aside0 (Below w.heap.size w wr)) (fun v1 _ => 32 - (intOf v1).toNat)
  case atStart => exact ⟨0, rfl, by omega, HA, HB⟩
  case round =>
    clear HA HB
    obtain ⟨j, rfl, hj, HA, HB⟩ := hrel
    by_cases hlt : j < 31
    · have hcell := HA.out.cell (j + 1) (by rw [fill_len oneL_len (by omega)]; omega)
      have hfro := HA.out.frozen (j + 1)
      have b1 : decide (((j + 1 : Nat) : Int) < 32) = true := decide_eq_true (by omega)
      have c1 : (0 : Int) ≤ ((j + 1 : Nat) : Int) := Int.natCast_nonneg _
      have c2 : ((j + 1 : Nat) : Int) < 32 := by omega
      have hp : 2 ^ j < 4294967296 := by
        have : 2 ^ j < 2 ^ 32 := Nat.pow_lt_pow_right (by omega) (by omega)
        omega
      have hv0 : (2 : Int) ^ j = ((2 ^ j : Nat) : Int) := by push_cast; rfl
      have hv : (2 : Int) ^ j % 4294967296 = ((2 ^ j : Nat) : Int) := by
        rw [hv0]
        generalize 2 ^ j = z at hp
        omega
      have HV0 := Aside0.mk hv0
      clear hv0
      have HA2 := Aside0.mk ((HA.out.set (j + 1) (2 ^ j)))
      have HF := Aside0.mk (fill_set oneL_len (show j + 1 < 32 by omega))
      have HG := Aside0.mk (oneL_get j hlt)
      go_wp2_with fail
      go_roundw
      case rel =>
        rw [HV0.out]
        refine ⟨j + 1, by go_num, by omega, ⟨?_⟩, ⟨HB.out.setCell (Nat.le_refl _) _⟩⟩
        rw [← HF.out, HG.out]
        exact HA2.out
      case measure => simp [intOf]; omega
    · obtain rfl : j = 31 := by omega
      go_wp2_with (first | (refine wpList_load_arr rfl _ _ rfl _ rfl HA.out Tryd.underlying58 hi38 (fill_len oneL_len (by omega)) ?_) | (refine wpList_store_arr rfl rfl _ _ _ rfl _ rfl HA.out _ rfl hi38 (fill_len oneL_len (by omega)) (fill_len oneL_len (by omega)) ?_))
      exact ret_arr rfl rfl (HA.out.setc _ rfl) Tryd.underlying58 hi38 (fill_len oneL_len (by omega)) rfl ⟨by rw [fill_all oneL_len], belowSetCells _ (Nat.le_refl _) _ _ _ HB.out⟩
theorem of_calls2 (t : List Nat) (r : Nat) (w : World) (ht : Reg t) (hr : r < 4294967296) : Calls Tryd.prog 36 #[.agg (t.map er).toArray, .int .u32 (r : Int)] w fun e w' => e = .returned (.int .u32 ((mapTo t 32 r : Nat) : Int)) ∧ Below w.heap.size w w' := of_calls t r w ht hr

end Go.Proofs.YtnapjjjomodmeaaDoor.G
