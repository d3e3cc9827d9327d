/- Contracts typed by hand: noughts -/
import Derived.Test.YtnapjjjomodmeaaDoorProg
import Derived.Below
import Derived.Deep.Draws
import Derived.Deep.AppendLies
import Derived.Maps.AppendAt
import Derived.OwnWalk
import Derived.Laws.BytesArg
import Derived.Laws.MakeOwn
import Derived.Laws.OwnMore
import Derived.Deep.OwnRows
import Derived.Tactics
import Derived.Lib.ConvBytes
import Derived.Laws.Slices
import Derived.WalkKit
import Derived.KernelRfl
import Derived.RowKit3
import Derived.Deep.LoopGhost
import Derived.Deep.QuietTactic
import Derived.BigQuiet
import Derived.WideLaws
import Derived.Deep.DeepCutAuto
import Derived.Deep.CutBlock
import Derived.Deep.RegionHeld3
import Derived.Laws.Rows
import Derived.Lib.AppendStr
import Derived.ArgAppend
import Derived.Laws.IdiomCopy
import Derived.OrdersHeld
import Derived.Laws.BitsLemmas
import Derived.RowKit
import Derived.Test.YtnapjjjomodmeaaDoorWWords
import Derived.Test.YtnapjjjomodmeaaDoorWLast
import Derived.Test.YtnapjjjomodmeaaDoorWTab
import Derived.Test.YtnapjjjomodmeaaDoorWFour
import Derived.Test.YtnapjjjomodmeaaDoorWQPut
import Derived.Test.YtnapjjjomodmeaaDoorWApart
import Derived.Test.YtnapjjjomodmeaaDoorWArr
import Derived.Test.YtnapjjjomodmeaaDoorWZeros
import Derived.Test.YtnapjjjomodmeaaDoorWFoot
import Derived.Test.YtnapjjjomodmeaaDoorWKept
import Derived.Test.YtnapjjjomodmeaaDoorWShare
import Derived.Test.YtnapjjjomodmeaaDoorWN
import Derived.Test.YtnapjjjomodmeaaDoorWFootNe
import Derived.Test.YtnapjjjomodmeaaDoorWAt
import Derived.Test.YtnapjjjomodmeaaDoorWEqStruct
import Derived.Test.YtnapjjjomodmeaaDoorWRepsOne
import Derived.Test.YtnapjjjomodmeaaDoorWInv
import Derived.Test.YtnapjjjomodmeaaDoorWInvWords
import Derived.Test.YtnapjjjomodmeaaDoorWGuard
import Derived.Test.YtnapjjjomodmeaaDoorWNEv
import Derived.Test.YtnapjjjomodmeaaDoorWMore
import Derived.Test.YtnapjjjomodmeaaDoorManArr02b
namespace Go.Proofs.YtnapjjjomodmeaaDoor.G
open Go.RowKit Go.Proofs.YtnapjjjomodmeaaDoorW.PrintWords Go.Proofs.YtnapjjjomodmeaaDoorW.PrintLast Go.Proofs.YtnapjjjomodmeaaDoorW.PrintMore
attribute [local go_sem] max2_int min2_int max_two min_two max_three min_three max_four min_four
set_option linter.unusedVariables false
set_option linter.unusedSimpArgs false

/-! noughts -/
theorem i64_and1 (n : Nat) (h : n < 9223372036854775808) : bits .and .i64 (n : Int) 1 = ((n % 2 : Nat) : Int) := by
  show IntKind.i64.wrap ((BitVec.ofInt 64 (n : Int) &&& BitVec.ofInt 64 1).toNat : Int) = _
  rw [BitVec.toNat_and, BitVec.ofInt_natCast, BitVec.toNat_ofNat, Nat.mod_eq_of_lt (by omega), show (BitVec.ofInt 64 1).toNat = 1 by rfl, Nat.and_one_is_mod]
  have : n % 2 < 2 := Nat.mod_lt _ (by omega)
  generalize n % 2 = y at *
  unfold IntKind.wrap
  simp [IntKind.signed, IntKind.bits]
  omega
theorem shift_odd (m n : Nat) (h : n % 2 = 1) : m + (m + m) * (n / 2) = m * n := by
  have e : n = 2 * (n / 2) + 1 := by omega
  conv => rhs; rw [e]
  rw [Nat.mul_add, Nat.mul_one, ← Nat.mul_assoc, Nat.mul_two, Nat.add_comm]
theorem shift_even (m n : Nat) (h : n % 2 = 0) : (m + m) * (n / 2) = m * n := by
  have e : n = 2 * (n / 2) := by omega
  conv => rhs; rw [e]
  rw [← Nat.mul_assoc, Nat.mul_two]
def t8 : List Nat := twiceOf (twiceOf (twiceOf oneL))
theorem t8_lin : Lin t8 8 := lin_twice (lin_twice (lin_twice oneL_lin))
def check_noughts.f (a0 a1 : Int) : Option Int := if 0 ≤ a0 ∧ a0 < 4294967296 ∧ 0 ≤ a1 ∧ a1 < 9223372036854775808 then some ((crcN (8 * a1.toNat) a0.toNat : Nat) : Int) else none
set_option maxHeartbeats 4000000 in
set_option maxRecDepth 100000 in
theorem check_noughts.calls (a0 a1 : Int) (r : Int) (w : World) (h : check_noughts.f a0 a1 = some r) :
    Calls Tryd.prog 30 #[.int .u32 a0, .int .i64 a1] w fun e w' => e = .returned (.int .u32 r) ∧ Below w.heap.size w w' := by
  unfold check_noughts.f at h
  by_cases hc : 0 ≤ a0 ∧ a0 < 4294967296 ∧ 0 ≤ a1 ∧ a1 < 9223372036854775808
  · rw [if_pos hc] at h
    obtain rfl := Option.some.inj h
    clear h
    obtain ⟨c0, c1, c2, c3⟩ := hc
    obtain ⟨a, rfl⟩ := Int.eq_ofNat_of_zero_le c0
    obtain ⟨n, rfl⟩ := Int.eq_ofNat_of_zero_le c2
    rw [Int.toNat_natCast, Int.toNat_natCast]
    have ha : a < 4294967296 := by omega
    have hn : n < 9223372036854775808 := by omega
    clear c0 c1 c2 c3
    obtain ⟨R, hR⟩ : ∃ R, crcN (8 * n) a = R := ⟨_, rfl⟩
    rw [hR]
    have HX := Aside0.mk hR
    clear hR
    have HN := Aside0.mk hn
    have HAL := Aside0.mk ha
    clear hn ha
    go_enter Tryd.func30, Tryd.ntmps30
    go_wp2_with (first
      | (go_at_call 34; (with_reducible refine (one_calls _).mono ?_); rintro e w1 ⟨rfl, hb⟩; have HB1 := Aside0.mk hb; clear hb)
      | (go_at_call 35; (with_reducible refine (twice_calls oneL 1 _ oneL_lin).mono ?_); rintro e w2 ⟨rfl, hb⟩; have HB2 := Aside0.mk (below_step HB1.out hb); clear hb)
      | (go_at_call 35; (with_reducible refine (twice_calls (twiceOf oneL) 2 _ (lin_twice oneL_lin)).mono ?_); rintro e w3 ⟨rfl, hb⟩; have HB3 := Aside0.mk (below_step HB2.out hb); clear hb)
      | (go_at_call 35; (with_reducible refine (twice_calls (twiceOf (twiceOf oneL)) 4 _ (lin_twice (lin_twice oneL_lin))).mono ?_); rintro e w4 ⟨rfl, hb⟩; have HB4 := Aside0.mk (below_step HB3.out hb); clear hb)
      | (refine wpList_store_arr rfl rfl _ _ _ rfl _ rfl (ArrAt.fresh _ 58 (fill oneL 0)) _ rfl hi38 (fill_len oneL_len (by omega)) t8_lin.1 ?_))
    have HI := Aside0.mk ((ArrAt.fresh w4 58 (fill oneL 0)).setc t8 (by rw [t8_lin.1, fill_len oneL_len (by omega)]))
    have HBI := Aside0.mk (belowSetCells _ HB4.out.size (t8.map er) 0 _ (below_alloc HB4.out (.cells (ac (fill oneL 0)) 58)))
    have HG := HB4.out.size
    clear HB1 HB2 HB3 HB4
    generalize hg : w4.heap.size = g at *
    clear hg
    go_loopw [0, 1] (fun v0 v1 wr => ∃ (r n m : Nat) (t : List Nat), v0 = .int .u32 (r : Int) ∧ v1 = .int .i64 (n : Int) ∧ Aside0 (r < 4294967296) ∧ Aside0 (n < 9223372036854775808) ∧ Aside0 (Lin t m) ∧ Aside0 (crcN (m * n) r = R) ∧ Aside0 (ArrAt wr g 58 t) ∧ Aside0 (Below w.heap.size w wr)) (fun _ v1 _ => (intOf v1).toNat)
    case atStart => exact ⟨a, n, 8, t8, rfl, rfl, HAL, HN, ⟨t8_lin⟩, HX, HI, HBI⟩
    case round =>
      clear HI HBI HX HAL HN
      obtain ⟨r, n, m, t, rfl, rfl, HR, HN, HL, HX, HA, HB⟩ := hrel
      by_cases hn0 : 0 < n
      · have b1 : decide ((0 : Int) < (n : Int)) = true := decide_eq_true (by omega)
        have hand := i64_and1 n HN.out
        obtain ⟨y, hy⟩ : ∃ y, n / 2 = y := ⟨_, rfl⟩
        have HH : (n : Int) / 2 = (y : Int) := by omega
        have HY := Aside0.mk hy
        clear hy
        have HLT := Aside0.mk (lin_twice HL.out)
        by_cases ho : n % 2 = 1
        · rw [ho, show ((1 : Nat) : Int) = 1 by rfl] at hand
          have HO := Aside0.mk ho
          clear ho
          go_wp2_with (first
            | ((with_reducible refine gate_ (.load 58 (.tmp 5)) rfl ?_); refine wpList_load_arr rfl _ _ rfl _ rfl (HA4.out) Tryd.underlying58 hi38 HL.out.1 ?_)
            | ((with_reducible refine gate_ (.load 58 (.tmp 5)) rfl ?_); refine wpList_load_arr rfl _ _ rfl _ rfl (HA.out) Tryd.underlying58 hi38 HL.out.1 ?_)
            | (go_at_call 36; (with_reducible refine (of_calls t r _ (reg_lin HL.out) HR.out).mono ?_); rintro e w4 ⟨rfl, hb⟩; have HB4 := Aside0.mk (below_step HB.out hb); have HA4 := Aside0.mk (HA.out.below hb); clear hb)
            | (go_at_call 35; (with_reducible refine (twice_calls t m _ HL.out).mono ?_); rintro e w5 ⟨rfl, hb⟩; have HB5 := Aside0.mk (below_step HB4.out hb); have HA5 := Aside0.mk (HA4.out.below hb); clear hb)
            | ((with_reducible refine gate_ (.store 58 (.tmp 5) (.tmp 21)) rfl ?_); refine wpList_store_arr rfl rfl _ _ _ rfl _ rfl HA5.out _ rfl hi38 HL.out.1 HLT.out.1 ?_))
          go_roundw
          case rel =>
            refine ⟨_, y, m + m, twiceOf t, rfl, rfl, ⟨?_⟩, ⟨?_⟩, HLT, ⟨?_⟩, ⟨HA5.out.setc _ (by rw [HLT.out.1, HL.out.1])⟩, ⟨belowSetCells _ HG _ _ _ HB5.out⟩⟩
            · rw [mapTo_all HL.out HR.out]; exact crcN_lt m HR.out
            · have := HN.out; have := HY.out; omega
            · rw [mapTo_all HL.out HR.out, ← HX.out, ← crcN_add]
              congr 1
              rw [← HY.out]; exact shift_odd m n HO.out
          case measure => have := HY.out; simp [intOf]; omega
        · have ho0 : n % 2 = 0 := by omega
          rw [ho0, show ((0 : Nat) : Int) = 0 by rfl] at hand
          have HO := Aside0.mk ho0
          clear ho ho0
          go_wp2_with (first
            | ((with_reducible refine gate_ (.load 58 (.tmp 5)) rfl ?_); refine wpList_load_arr rfl _ _ rfl _ rfl (HA.out) Tryd.underlying58 hi38 HL.out.1 ?_)
            | (go_at_call 35; (with_reducible refine (twice_calls t m _ HL.out).mono ?_); rintro e w5 ⟨rfl, hb⟩; have HB5 := Aside0.mk (below_step HB.out hb); have HA5 := Aside0.mk (HA.out.below hb); clear hb)
            | ((with_reducible refine gate_ (.store 58 (.tmp 5) (.tmp 21)) rfl ?_); refine wpList_store_arr rfl rfl _ _ _ rfl _ rfl HA5.out _ rfl hi38 HL.out.1 HLT.out.1 ?_))
          go_roundw
          case rel =>
            refine ⟨r, y, m + m, twiceOf t, rfl, rfl, HR, ⟨?_⟩, HLT, ⟨?_⟩, ⟨HA5.out.setc _ (by rw [HLT.out.1, HL.out.1])⟩, ⟨belowSetCells _ HG _ _ _ HB5.out⟩⟩
            · have := HN.out; have := HY.out; omega
            · rw [← HX.out]
              congr 1
              rw [← HY.out]; exact shift_even m n HO.out
          case measure => have := HY.out; simp [intOf]; omega
      · obtain rfl : n = 0 := by omega
        have b1 : decide ((0 : Int) < ((0 : Nat) : Int)) = false := by decide
        have hx := HX.out
        rw [Nat.mul_zero] at hx
        obtain rfl : r = R := hx
        go_wp2
        go_ret
        exact ⟨rfl, HB.out⟩
  · rw [if_neg hc] at h
    cases h

end Go.Proofs.YtnapjjjomodmeaaDoor.G
