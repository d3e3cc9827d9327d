/- Contracts typed by hand: Shift -/
import Derived.Test.YtnapjjjomodmeaaProg
import Derived.Below
import Derived.Deep.Draws
import Derived.Deep.AppendLies
import Derived.Maps.AppendAt
import Derived.OwnWalk
import Derived.Laws.BytesArg
import Derived.Laws.MakeOwn
import Derived.Laws.OwnMore
import Derived.Deep.OwnRows
import Derived.Tactics
import Derived.Lib.ConvBytes
import Derived.Laws.Slices
import Derived.WalkKit
import Derived.KernelRfl
import Derived.RowKit3
import Derived.Deep.LoopGhost
import Derived.Deep.QuietTactic
import Derived.BigQuiet
import Derived.WideLaws
import Derived.Deep.DeepCutAuto
import Derived.Deep.CutBlock
import Derived.Deep.RegionHeld3
import Derived.Laws.Rows
import Derived.Lib.AppendStr
import Derived.ArgAppend
import Derived.Laws.IdiomCopy
import Derived.OrdersHeld
import Derived.Laws.BitsLemmas
import Derived.RowKit
import Derived.Test.YtnapjjjomodmeaaWWords
import Derived.Test.YtnapjjjomodmeaaWLast
import Derived.Test.YtnapjjjomodmeaaWTab
import Derived.Test.YtnapjjjomodmeaaWFour
import Derived.Test.YtnapjjjomodmeaaWQPut
import Derived.Test.YtnapjjjomodmeaaWApart
import Derived.Test.YtnapjjjomodmeaaWArr
import Derived.Test.YtnapjjjomodmeaaWZeros
import Derived.Test.YtnapjjjomodmeaaWFoot
import Derived.Test.YtnapjjjomodmeaaWKept
import Derived.Test.YtnapjjjomodmeaaWShare
import Derived.Test.YtnapjjjomodmeaaWN
import Derived.Test.YtnapjjjomodmeaaWFootNe
import Derived.Test.YtnapjjjomodmeaaWAt
import Derived.Test.YtnapjjjomodmeaaWEqStruct
import Derived.Test.YtnapjjjomodmeaaWRepsOne
import Derived.Test.YtnapjjjomodmeaaWInv
import Derived.Test.YtnapjjjomodmeaaWInvWords
import Derived.Test.YtnapjjjomodmeaaWGuard
import Derived.Test.YtnapjjjomodmeaaWNEv
import Derived.Test.YtnapjjjomodmeaaWMore
import Derived.Test.YtnapjjjomodmeaaManArr02c
import Derived.Test.YtnapjjjomodmeaaManArr02d
import Derived.Test.YtnapjjjomodmeaaPureOver02
namespace Go.Proofs.Ytnapjjjomodmeaa.G
open Go.RowKit Go.Proofs.YtnapjjjomodmeaaW.PrintWords Go.Proofs.YtnapjjjomodmeaaW.PrintLast Go.Proofs.YtnapjjjomodmeaaW.PrintMore
attribute [local go_sem] max2_int min2_int max_two min_two max_three min_three max_four min_four
set_option linter.unusedVariables false
set_option linter.unusedSimpArgs false

/-! Shift -/
theorem lit1_reads (w : World) (fz : Nat × Nat) : Kd.C (Kd.int .u8) (w.alloc (.cells #[.int .u8 0] 5 fz)) (some ⟨w.heap.size, 0, none⟩) [(0 : Int)].length [0] := by
  refine Kd.C_of_reads (d := (0 : Int)) (h1 := fun _ => rfl) ⟨rfl, by decide, fun _ => ⟨_, rfl, fun j hj => ?_⟩⟩
  rw [add_plain]
  have hh : (w.alloc (.cells #[.int .u8 0] 5 fz)).heap[w.heap.size]? = some (.cells #[.int .u8 0] 5 fz) := by
    show (w.heap.push _)[w.heap.size]? = _
    simp
  unfold World.cell?
  rw [hh]
  match j, hj with
  | 0, _ => rfl
  | n + 1, h => exact absurd h (by simp)
theorem over_one (r : Nat) (hr : r < 4294967296) : moraineref02_over.f 11 (r : Int) [0] = some ((crcN 8 r : Nat) : Int) := by
  rw [over_eq 11 r [0] hr (Byt.cons (by omega) (by omega) Byt.nil) (by simp) (by simp)]
  show some ((crcN 8 (r ^^^ 0) : Nat) : Int) = _
  rw [Nat.xor_zero]
theorem over_one_calls (p : Nat) (w : World) (hp : p < 4294967296) : Calls Try.prog 20 #[.int .u32 (p : Int), .slice (some ⟨w.heap.size, 0, none⟩) 1 1] (w.alloc (.cells #[.int .u8 0] 5)) fun e w' => e = .returned (.int .u32 ((crcN 8 p : Nat) : Int)) ∧ Drawn0 (w.alloc (.cells #[.int .u8 0] 5)) w' :=
  moraineref02_over.calls 11 (p : Int) _ 1 [0] _ _ (lit1_reads w (0, 0)) (by decide) (over_one p hp)
theorem wrp (x : Int) (h0 : -9223372036854775808 ≤ x) (h1 : x ≤ 9223372036854775807) : wrap64 x = x := wr x h0 h1
theorem tdiv2 (n : Nat) : Int.tdiv (n : Int) 2 = ((n / 2 : Nat) : Int) := by rw [Int.tdiv_eq_ediv_of_nonneg (by omega)]; omega
theorem tmod2 (n : Nat) : Int.tmod (n : Int) 2 = ((n % 2 : Nat) : Int) := by rw [Int.tmod_eq_emod_of_nonneg (by omega)]; omega
theorem mod32 (p : Nat) (h : p < 4294967296) : (p : Int) % 4294967296 = (p : Int) := by omega
theorem half_meas (n y : Nat) (h : n / 2 = y) (h0 : 0 < n) : (y : Int).toNat < (n : Int).toNat := by
  rw [Int.toNat_natCast, Int.toNat_natCast]
  omega
theorem quo2 (n y : Nat) (h : n / 2 = y) (hn : n < 9223372036854775808) : wrap64 ((n : Int) / 2) = (y : Int) := by
  rw [show (n : Int) / 2 = (y : Int) by omega]
  exact wrp _ (by omega) (by omega)
def mapL : List Nat := (List.range 32).map fun i => crcN 8 (2 ^ i)
theorem mapL_len : mapL.length = 32 := rfl
theorem mapL_get (i : Nat) (h : i < 32) : mapL.getD i 0 = crcN 8 (2 ^ i) := getD_range_map (fun i => crcN 8 (2 ^ i)) i h
theorem mapL_lin : Lin mapL 8 := ⟨mapL_len, mapL_get⟩
def moraineref02_Shift.f (a0 a1 : Int) : Option Int := if 0 ≤ a0 ∧ a0 < 4294967296 ∧ 0 ≤ a1 ∧ a1 < 9223372036854775808 then some ((crcN (8 * a1.toNat) a0.toNat : Nat) : Int) else none
set_option maxHeartbeats 4000000 in
set_option maxRecDepth 100000 in
theorem moraineref02_Shift.calls (a0 a1 : Int) (r : Int) (w : World) (h : moraineref02_Shift.f a0 a1 = some r) :
    Calls Try.prog 16 #[.int .u32 a0, .int .i64 a1] w fun e w' => e = .returned (.int .u32 r) ∧ Below w.heap.size w w' := by
  unfold moraineref02_Shift.f at h
  by_cases hc : 0 ≤ a0 ∧ a0 < 4294967296 ∧ 0 ≤ a1 ∧ a1 < 9223372036854775808
  · rw [if_pos hc] at h
    obtain rfl := Option.some.inj h
    clear h
    obtain ⟨c0, c1, c2, c3⟩ := hc
    obtain ⟨a, rfl⟩ := Int.eq_ofNat_of_zero_le c0
    obtain ⟨n, rfl⟩ := Int.eq_ofNat_of_zero_le c2
    rw [Int.toNat_natCast, Int.toNat_natCast]
    have ha : a < 4294967296 := by omega
    have hn : n < 9223372036854775808 := by omega
    clear c0 c1 c2 c3
    obtain ⟨R, hR⟩ : ∃ R, crcN (8 * n) a = R := ⟨_, rfl⟩
    rw [hR]
    have HX := Aside0.mk hR
    clear hR
    have HN := Aside0.mk hn
    have HAL := Aside0.mk ha
    clear hn ha
    have HI := Aside0.mk (ArrAt.fresh w 40 (fill mapL 0))
    have HBI := Aside0.mk (below_alloc (Below.refl w.heap.size w) (.cells (ac (fill mapL 0)) 40))
    go_enter Try.func16, Try.ntmps16
    go_wp2_with fail
    go_loopw [6] (fun v6 wr => ∃ (k : Nat), v6 = .int .i64 (k : Int) ∧ k ≤ 32 ∧ Aside0 (ArrAt wr w.heap.size 40 (fill mapL k)) ∧ Aside0 (Below w.heap.size w wr)) (fun v6 _ => 32 - (intOf v6).toNat)
    case atStart => exact ⟨0, rfl, by omega, HI, HBI⟩
    case round =>
      clear HI HBI
      obtain ⟨k, rfl, hk, HA, HB⟩ := hrel
      by_cases hlt : k < 32
      · have b1 : decide ((k : Int) < 32) = true := decide_eq_true (by omega)
        have c1 : (0 : Int) ≤ (k : Int) := Int.natCast_nonneg _
        have c2 : (k : Int) < 32 := by omega
        have hp : 2 ^ k < 4294967296 := by
          have : 2 ^ k < 2 ^ 32 := Nat.pow_lt_pow_right (by omega) hlt
          omega
        have hv0 : (2 : Int) ^ k = ((2 ^ k : Nat) : Int) := by push_cast; rfl
        have HF := Aside0.mk (fill_set mapL_len hlt)
        have HG := Aside0.mk (mapL_get k hlt)
        obtain ⟨p, hpe⟩ : ∃ p, 2 ^ k = p := ⟨_, rfl⟩
        rw [hpe] at hp hv0
        have hv : (2 : Int) ^ k % 4294967296 = (p : Int) := by
          rw [hv0]
          exact mod32 p hp
        have HP := Aside0.mk hpe
        have HO := Aside0.mk hp
        have HK := Aside0.mk (show k < (fill mapL k).length by rw [fill_len mapL_len hk]; exact hlt)
        clear hpe
        go_wp2_with (first | (go_at_call 20; (with_reducible refine (over_one_calls p _ HO.out).mono ?_); rintro e w4 ⟨rfl, hd⟩; have HA4 := Aside0.mk ((HA.out.alloc _).below hd.below); have HB4 := Aside0.mk (below_step (below_alloc HB.out _) hd.below); have hcell := HA4.out.cell k HK.out; have hfro := HA4.out.frozen k; clear hd))
        go_roundw
        case rel =>
          clear hv hv0
          refine ⟨k + 1, by go_num, by omega, ⟨?_⟩, ⟨HB4.out.setCell (Nat.le_refl _) _⟩⟩
          rw [← HF.out, HG.out, HP.out]
          exact HA4.out.set k _
        case measure => clear hv hv0; simp [intOf]; omega
      · have hk32 : k = 32 := by omega
        have HI := Aside0.mk (show ArrAt wr w.heap.size 40 mapL by rw [← fill_all mapL_len, ← hk32]; exact HA.out)
        have b0 : decide ((k : Int) < 32) = false := decide_eq_false (by omega)
        clear hk32
        have HBI := HB
        clear HA HB hlt hk
        go_wp2_with fail
        go_loopw [0, 1] (fun v0 v1 wr => ∃ (r n m : Nat) (t : List Nat), v0 = .int .u32 (r : Int) ∧ v1 = .int .i64 (n : Int) ∧ Aside0 (r < 4294967296) ∧ Aside0 (n < 9223372036854775808) ∧ Aside0 (Lin t m) ∧ Aside0 (crcN (m * n) r = R) ∧ Aside0 (ArrAt wr w.heap.size 40 t) ∧ Aside0 (Below w.heap.size w wr)) (fun _ v1 _ => (intOf v1).toNat)
        case atStart => exact ⟨a, n, 8, mapL, rfl, rfl, HAL, HN, ⟨mapL_lin⟩, HX, HI, HBI⟩
        case round =>
          clear HI HBI HX HAL HN
          obtain ⟨r, n, m, t, rfl, rfl, HR, HN, HL, HX, HA, HB⟩ := hrel
          by_cases hn0 : 0 < n
          · have b1 : decide ((0 : Int) < (n : Int)) = true := decide_eq_true (by omega)
            obtain ⟨y, hy⟩ : ∃ y, n / 2 = y := ⟨_, rfl⟩
            have HQ := Aside0.mk (quo2 n y hy HN.out)
            have htm : Int.tmod (n : Int) 2 = ((n % 2 : Nat) : Int) := tmod2 n
            have HY := Aside0.mk hy
            clear hy
            have HLT := Aside0.mk (lin_twice HL.out)
            by_cases ho : n % 2 = 1
            · rw [ho, show ((1 : Nat) : Int) = 1 by rfl] at htm
              have HO := Aside0.mk ho
              clear ho
              go_wp2_with (first
                | ((with_reducible refine gate_ (.load 40 (.tmp 5)) rfl ?_); refine wpList_load_arr rfl _ _ rfl _ rfl (HA4.out) Try.underlying40 hi40 HL.out.1 ?_)
                | ((with_reducible refine gate_ (.load 40 (.tmp 5)) rfl ?_); refine wpList_load_arr rfl _ _ rfl _ rfl (HA.out) Try.underlying40 hi40 HL.out.1 ?_)
                | (go_at_call 21; (with_reducible refine (refof_calls t r _ (reg_lin HL.out) HR.out).mono ?_); rintro e w4 ⟨rfl, hb⟩; have HB4 := Aside0.mk (below_step HB.out hb); have HA4 := Aside0.mk (HA.out.below hb); clear hb)
                | (go_at_call 22; (with_reducible refine (then_calls t m _ HL.out).mono ?_); rintro e w5 ⟨rfl, hb⟩; have HB5 := Aside0.mk (below_step HB4.out hb); have HA5 := Aside0.mk (HA4.out.below hb); clear hb)
                | ((with_reducible refine gate_ (.store 40 (.tmp 5) (.tmp 27)) rfl ?_); refine wpList_store_arr rfl rfl _ _ _ rfl _ rfl HA5.out _ rfl hi40 HL.out.1 HLT.out.1 ?_))
              go_roundw
              case rel =>
                clear htm
                rw [HQ.out]
                refine ⟨_, y, m + m, twiceOf t, rfl, rfl, ⟨?_⟩, ⟨?_⟩, HLT, ⟨?_⟩, ⟨HA5.out.setc _ (by rw [HLT.out.1, HL.out.1])⟩, ⟨belowSetCells _ (Nat.le_refl _) _ _ _ HB5.out⟩⟩
                · rw [mapTo_all HL.out HR.out]; exact crcN_lt m HR.out
                · have := HN.out; have := HY.out; omega
                · rw [mapTo_all HL.out HR.out, ← HX.out, ← crcN_add]
                  congr 1
                  rw [← HY.out]; exact shift_odd m n HO.out
              case measure => rw [HQ.out]; exact half_meas n y HY.out hn0
            · have ho0 : n % 2 = 0 := by omega
              rw [ho0, show ((0 : Nat) : Int) = 0 by rfl] at htm
              have HO := Aside0.mk ho0
              clear ho ho0
              go_wp2_with (first
                | ((with_reducible refine gate_ (.load 40 (.tmp 5)) rfl ?_); refine wpList_load_arr rfl _ _ rfl _ rfl (HA.out) Try.underlying40 hi40 HL.out.1 ?_)
                | (go_at_call 22; (with_reducible refine (then_calls t m _ HL.out).mono ?_); rintro e w5 ⟨rfl, hb⟩; have HB5 := Aside0.mk (below_step HB.out hb); have HA5 := Aside0.mk (HA.out.below hb); clear hb)
                | ((with_reducible refine gate_ (.store 40 (.tmp 5) (.tmp 27)) rfl ?_); refine wpList_store_arr rfl rfl _ _ _ rfl _ rfl HA5.out _ rfl hi40 HL.out.1 HLT.out.1 ?_))
              go_roundw
              case rel =>
                clear htm
                rw [HQ.out]
                refine ⟨r, y, m + m, twiceOf t, rfl, rfl, HR, ⟨?_⟩, HLT, ⟨?_⟩, ⟨HA5.out.setc _ (by rw [HLT.out.1, HL.out.1])⟩, ⟨belowSetCells _ (Nat.le_refl _) _ _ _ HB5.out⟩⟩
                · have := HN.out; have := HY.out; omega
                · rw [← HX.out]
                  congr 1
                  rw [← HY.out]; exact shift_even m n HO.out
              case measure => rw [HQ.out]; exact half_meas n y HY.out hn0
          · obtain rfl : n = 0 := by omega
            have b1 : decide ((0 : Int) < ((0 : Nat) : Int)) = false := by decide
            have hx := HX.out
            rw [Nat.mul_zero] at hx
            obtain rfl : r = R := hx
            go_wp2
            go_ret
            exact ⟨rfl, HB.out⟩
  · rw [if_neg hc] at h
    cases h

end Go.Proofs.Ytnapjjjomodmeaa.G
