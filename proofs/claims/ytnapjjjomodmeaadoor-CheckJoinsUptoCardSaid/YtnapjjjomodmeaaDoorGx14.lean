/- Printed by the session's program over the kit's print, out of the translation: functions as plain Lean functions, and the proofs that the calls come to them. -/
import Derived.Test.YtnapjjjomodmeaaDoorGx0
namespace Go.Proofs.YtnapjjjomodmeaaDoor.G
open Go.RowKit Go.Proofs.YtnapjjjomodmeaaDoorW.PrintWords Go.Proofs.YtnapjjjomodmeaaDoorW.PrintLast Go.Proofs.YtnapjjjomodmeaaDoorW.PrintMore
attribute [local go_sem] max2_int min2_int max_two min_two max_three min_three max_four min_four   -- for this text's walks alone
set_option linter.unusedVariables false
set_option linter.unusedSimpArgs false

/-! ### check_Patch: function 18 -/
def check_Patch.l0 : Nat → Int → Int → Int → Option (List Int)
  | 0, _, _, _ => none
  | k + 1, x0, x5, x9 => if x9 < 32 then (if (x5 / 2147483648) = 1 then (check_Patch.l0 k x0 (Go.bits .or .u32 (((Go.bits .xor .u32 x5 2197175160) * 2) % 4294967296) 1) (wrap64 (x9 + 1))) else (check_Patch.l0 k x0 ((x5 * 2) % 4294967296) (wrap64 (x9 + 1)))) else (some (([(Go.bits .xor .u32 x5 (Go.bits .xor .u32 4294967295 x0)) % 256, ((Go.bits .xor .u32 x5 (Go.bits .xor .u32 4294967295 x0)) / 256) % 256, ((Go.bits .xor .u32 x5 (Go.bits .xor .u32 4294967295 x0)) / 65536) % 256, ((Go.bits .xor .u32 x5 (Go.bits .xor .u32 4294967295 x0)) / 16777216) % 256] : List Int)))
def check_Patch.f (k : Nat) (a0 : Int) (a1 : Int) : Option (List Int) := check_Patch.l0 k a0 (Go.bits .xor .u32 4294967295 a1) 0
theorem check_Patch.mono_l : ∀ k, (∀ y0 y1 y2, LeO (check_Patch.l0 k y0 y1 y2) (check_Patch.l0 (k + 1) y0 y1 y2))
  | 0 => fun _ _ _ r h => by simp [check_Patch.l0] at h
  | k + 1 => by
    have ih0 := check_Patch.mono_l k
    · intro y0 y1 y2
      unfold check_Patch.l0
      repeat' first
      | (with_reducible exact ih0 _ _ _)
      | (with_reducible exact LeO.refl _)
      | (with_reducible exact LeO.none _)
      | (with_reducible refine LeO.ite ?_ ?_)
      | (with_reducible refine LeO.bind ?_ (fun _ => ?_))
      | exact ih0 _ _ _
      | exact LeO.none _
      | refine LeO.ite ?_ ?_
      | refine LeO.bind ?_ (fun _ => ?_)
theorem check_Patch.mono : ∀ a0 a1 k, LeO (check_Patch.f k a0 a1) (check_Patch.f (k + 1) a0 a1) := by
  intro a0 a1 k
  have ih0 := check_Patch.mono_l k
  unfold check_Patch.f
  repeat' first
      | (with_reducible exact ih0 _ _ _)
      | (with_reducible exact LeO.refl _)
      | (with_reducible exact LeO.none _)
      | (with_reducible refine LeO.ite ?_ ?_)
      | (with_reducible refine LeO.bind ?_ (fun _ => ?_))
      | exact ih0 _ _ _
      | exact LeO.none _
      | refine LeO.ite ?_ ?_
      | refine LeO.bind ?_ (fun _ => ?_)
set_option maxHeartbeats 8000000 in
set_option maxRecDepth 100000 in
theorem check_Patch.calls (k : Nat) (a0 : Int) (a1 : Int) (r : List Int) (w : World) (h : check_Patch.f k a0 a1 = some r) :
    Calls Tryd.prog 18 #[.int .u32 a0, .int .u32 a1] w fun e w' => ∃ v0_ : Value, e = .returned (v0_) ∧ Kd.R (Kd.int .u8) 5 w' w.heap.size (fun _ => True) v0_ r ∧ Below w.heap.size w w' := by
  have HB := Aside0.mk (Below.refl w.heap.size w)
  have H : (check_Patch.l0 k a0 (Go.bits .xor .u32 4294967295 a1) 0) = some r := h
  clear h
  have H' := Aside0.mk H
  clear H
  go_enter Tryd.func18, Tryd.ntmps18
  go_wp2
  go_loopg [5, 9] k (fun kq v5 v9 w' => ∃ (x5_1 : Int) (x9_1 : Int), v5 = .int .u32 x5_1 ∧ v9 = .int .i64 x9_1 ∧ Aside0 (check_Patch.l0 kq a0 x5_1 x9_1 = some r) ∧ Aside0 (kq ≤ k) ∧ Aside0 (Below w.heap.size w w'))
  case atStart => exact ⟨(Go.bits .xor .u32 4294967295 a1), (0), (by first | rfl | (simp; done) | (simp [*]; done)), (by first | rfl | (simp; done) | (simp [*]; done)), H', ⟨Nat.le_refl _⟩, ⟨by repeat (first | (with_reducible first | exact HB.out | apply below_alloc | apply pw_below_drewN | apply below_drew1) | exact HB.out)⟩⟩
  case round =>
    clear H'
    try clear c1
    try clear p2
    obtain ⟨x5_1, x9_1, rfl, rfl, HA, HK1, HB⟩ := hrel
    cases gk with
    | zero => exact absurd HA.out (by simp [check_Patch.l0])
    | succ k1 =>
      have H := HA.out
      clear HA
      simp only [check_Patch.l0] at H
      by_cases c3 : x9_1 < 32
      · rw [if_pos c3] at H
        have c3b0 : decide (x9_1 < 32) = true := decide_eq_true c3
        clear c3
        by_cases c4 : (x5_1 / 2147483648) = 1
        · rw [if_pos c4] at H
          have c4b0 : ((x5_1 / 2147483648) == 1) = true := beq_iff_eq.mpr c4
          have c4b1 : ((x5_1 / 2147483648) != 1) = false := bne_eq_false_iff_eq.mpr c4
          clear c4
          have H' := Aside0.mk H
          clear H
          go_wp2
          go_roundg k1
          case measure => have := HK1.out; omega
          case rel => exact ⟨(Go.bits .or .u32 (((Go.bits .xor .u32 x5_1 2197175160) * 2) % 4294967296) 1), (wrap64 (x9_1 + 1)), (by first | rfl | (simp; done) | (simp [*]; done)), (by first | rfl | (simp; done) | (simp [*]; done)), H', ⟨by have := HK1.out; omega⟩, ⟨by repeat (first | (with_reducible first | exact HB.out | apply below_alloc | apply pw_below_drewN | apply below_drew1) | exact HB.out)⟩⟩
        · rw [if_neg c4] at H
          have c4b0 : ((x5_1 / 2147483648) == 1) = false := beq_eq_false_iff_ne.mpr c4
          have c4b1 : ((x5_1 / 2147483648) != 1) = true := bne_iff_ne.mpr c4
          have H' := Aside0.mk H
          clear H
          go_wp2
          go_roundg k1
          case measure => have := HK1.out; omega
          case rel => exact ⟨((x5_1 * 2) % 4294967296), (wrap64 (x9_1 + 1)), (by first | rfl | (simp; done) | (simp [*]; done)), (by first | rfl | (simp; done) | (simp [*]; done)), H', ⟨by have := HK1.out; omega⟩, ⟨by repeat (first | (with_reducible first | exact HB.out | apply below_alloc | apply pw_below_drewN | apply below_drew1) | exact HB.out)⟩⟩
      · rw [if_neg c3] at H
        have c3b0 : decide (x9_1 < 32) = false := decide_eq_false c3
        clear c3
        obtain ⟨y136, hy136⟩ : ∃ y_ : List Int, y_ = (([(Go.bits .xor .u32 x5_1 (Go.bits .xor .u32 4294967295 a0)) % 256, ((Go.bits .xor .u32 x5_1 (Go.bits .xor .u32 4294967295 a0)) / 256) % 256, ((Go.bits .xor .u32 x5_1 (Go.bits .xor .u32 4294967295 a0)) / 65536) % 256, ((Go.bits .xor .u32 x5_1 (Go.bits .xor .u32 4294967295 a0)) / 16777216) % 256] : List Int)) := ⟨_, rfl⟩
        replace H : (some y136) = some r := by first | (rw [hy136]; with_reducible exact H) | (have H2_ := (Option.bind_some _ _).symm.trans H; rw [hy136]; with_reducible exact H2_) | (have H2_ := (Option.bind_some _ _).symm.trans H; with_reducible exact H2_) | with_reducible exact H | (rw [hy136]; exact H) | exact H
        have Ny136 := Aside0.mk hy136
        clear hy136
        obtain rfl := Option.some.inj H
        go_wp2_with (first | ((with_reducible refine gate_dst (N := 36) rfl ?_); refine Kd.R_lit (Kd.int .u8) _ 5 ?hg (N := 36) ?hd (xs := ([(Go.bits .xor .u32 x5_1 (Go.bits .xor .u32 4294967295 a0)) % 256, ((Go.bits .xor .u32 x5_1 (Go.bits .xor .u32 4294967295 a0)) / 256) % 256, ((Go.bits .xor .u32 x5_1 (Go.bits .xor .u32 4294967295 a0)) / 65536) % 256, ((Go.bits .xor .u32 x5_1 (Go.bits .xor .u32 4294967295 a0)) / 16777216) % 256] : List Int)) (inner := [.int .u8 ((Go.bits .xor .u32 x5_1 (Go.bits .xor .u32 4294967295 a0)) % 256), .int .u8 (((Go.bits .xor .u32 x5_1 (Go.bits .xor .u32 4294967295 a0)) / 256) % 256), .int .u8 (((Go.bits .xor .u32 x5_1 (Go.bits .xor .u32 4294967295 a0)) / 65536) % 256), .int .u8 (((Go.bits .xor .u32 x5_1 (Go.bits .xor .u32 4294967295 a0)) / 16777216) % 256)]) (ok := fun _ => True) (okp := fun _ => True) ?hr ?hp (fun _ hk => hk) trivial (Below.refl _ _) (Nat.le_refl _) (by simp) ?_; (case hd => rfl); (case hg => rfl); (case hr => first | (go_simp; done) | (go_simp; rfl)); (case hp => exact (Reps.one (show Kd.M (Kd.int .u8) _ _ _ ((Go.bits .xor .u32 x5_1 (Go.bits .xor .u32 4294967295 a0)) % 256) [.int .u8 ((Go.bits .xor .u32 x5_1 (Go.bits .xor .u32 4294967295 a0)) % 256)] from rfl) (Reps.one (show Kd.M (Kd.int .u8) _ _ _ (((Go.bits .xor .u32 x5_1 (Go.bits .xor .u32 4294967295 a0)) / 256) % 256) [.int .u8 (((Go.bits .xor .u32 x5_1 (Go.bits .xor .u32 4294967295 a0)) / 256) % 256)] from rfl) (Reps.one (show Kd.M (Kd.int .u8) _ _ _ (((Go.bits .xor .u32 x5_1 (Go.bits .xor .u32 4294967295 a0)) / 65536) % 256) [.int .u8 (((Go.bits .xor .u32 x5_1 (Go.bits .xor .u32 4294967295 a0)) / 65536) % 256)] from rfl) (Reps.one (show Kd.M (Kd.int .u8) _ _ _ (((Go.bits .xor .u32 x5_1 (Go.bits .xor .u32 4294967295 a0)) / 16777216) % 256) [.int .u8 (((Go.bits .xor .u32 x5_1 (Go.bits .xor .u32 4294967295 a0)) / 16777216) % 256)] from rfl) (Reps.none _ _)))))); intro v137 w5 ho6 hb hg_ hnew_; clear hg_ hnew_; (first | rw [← Ny136.out] at ho6 | (simp only [Int.reduceToNat] at ho6; rw [← Ny136.out] at ho6)); have n0_ := Aside0.mk (Kd.R_lower ho6 (below_size (by repeat (first | (with_reducible first | exact HB.out | apply below_alloc | apply pw_below_drewN | apply below_drew1) | exact HB.out)))); have n1_ := Aside0.mk (below_step (by repeat (first | (with_reducible first | exact HB.out | apply below_alloc | apply pw_below_drewN | apply below_drew1) | exact HB.out)) hb); clear HB; have HO138 := n0_; have HB := n1_; clear n0_ n1_; clear hb ho6))
        go_ret
        exact ⟨_, by first | rfl | (simp [errW_none, errW_some] <;> rfl) | (simp [*, errW_none, errW_some] <;> rfl), by (with_reducible repeat (first | apply Kd.R_alloc | apply Kd.R_drewN | apply Kd.R_drew)); exact HO138.out, by repeat (first | (with_reducible first | exact HB.out | apply below_alloc | apply pw_below_drewN | apply below_drew1) | exact HB.out)⟩

end Go.Proofs.YtnapjjjomodmeaaDoor.G
