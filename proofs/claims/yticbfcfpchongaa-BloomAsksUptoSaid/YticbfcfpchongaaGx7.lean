/- Printed by the session's program over the kit's print, out of the translation: functions as plain Lean functions, and the proofs that the calls come to them. -/
import Derived.Test.YticbfcfpchongaaGx0
import Derived.Test.YticbfcfpchongaaGx6
namespace Go.Proofs.Yticbfcfpchongaa.G
open Go.RowKit Go.Proofs.YticbfcfpchongaaW.PrintWords Go.Proofs.YticbfcfpchongaaW.PrintLast Go.Proofs.YticbfcfpchongaaW.PrintMore
attribute [local go_sem] max2_int min2_int max_two min_two max_three min_three max_four min_four   -- for this text's walks alone
set_option linter.unusedVariables false
set_option linter.unusedSimpArgs false

/-! ### moraineref12_Hash: function 14 -/
def moraineref12_Hash.l0 : Nat → ByteArray → Int → Int → Int → Option (Int)
  | 0, _, _, _, _ => none
  | k + 1, x0, x5, x6, x7 => if (wrap64 ((x0.size : Int) - x7)) ≥ 4 then ((moraineref12_number.f k x0 x7 4).bind fun t101 => (moraineref12_Hash.l0 k x0 x5 (Go.bits .xor .u32 ((((x6 + t101) % 4294967296) * x5) % 4294967296) (((((x6 + t101) % 4294967296) * x5) % 4294967296) / 65536)) (wrap64 (x7 + 4)))) else (if x7 < (x0.size : Int) then ((moraineref12_number.f k x0 x7 (wrap64 ((x0.size : Int) - x7))).bind fun t102 => (some (Go.bits .xor .u32 ((((x6 + t102) % 4294967296) * x5) % 4294967296) (((((x6 + t102) % 4294967296) * x5) % 4294967296) / 16777216)))) else (some x6))
def moraineref12_Hash.f (k : Nat) (a0 : ByteArray) (a1 : Int) : Option (Int) := moraineref12_Hash.l0 k a0 3332679571 (Go.bits .xor .u32 a1 (((((a0.size : Int)) % 4294967296) * 3332679571) % 4294967296)) 0
theorem moraineref12_Hash.mono_l : ∀ k, (∀ y0 y1 y2 y3, LeO (moraineref12_Hash.l0 k y0 y1 y2 y3) (moraineref12_Hash.l0 (k + 1) y0 y1 y2 y3))
  | 0 => fun _ _ _ _ r h => by simp [moraineref12_Hash.l0] at h
  | k + 1 => by
    have ih0 := moraineref12_Hash.mono_l k
    · intro y0 y1 y2 y3
      unfold moraineref12_Hash.l0
      repeat' first
      | (with_reducible exact ih0 _ _ _ _)
      | (with_reducible exact moraineref12_number.mono _ _ _ _)
      | (with_reducible exact LeO.refl _)
      | (with_reducible exact LeO.none _)
      | (with_reducible refine LeO.ite ?_ ?_)
      | (with_reducible refine LeO.bind ?_ (fun _ => ?_))
      | exact ih0 _ _ _ _
      | exact moraineref12_number.mono _ _ _ _
      | exact LeO.none _
      | refine LeO.ite ?_ ?_
      | refine LeO.bind ?_ (fun _ => ?_)
theorem moraineref12_Hash.mono : ∀ a0 a1 k, LeO (moraineref12_Hash.f k a0 a1) (moraineref12_Hash.f (k + 1) a0 a1) := by
  intro a0 a1 k
  have ih0 := moraineref12_Hash.mono_l k
  unfold moraineref12_Hash.f
  repeat' first
      | (with_reducible exact ih0 _ _ _ _)
      | (with_reducible exact moraineref12_number.mono _ _ _ _)
      | (with_reducible exact LeO.refl _)
      | (with_reducible exact LeO.none _)
      | (with_reducible refine LeO.ite ?_ ?_)
      | (with_reducible refine LeO.bind ?_ (fun _ => ?_))
      | exact ih0 _ _ _ _
      | exact moraineref12_number.mono _ _ _ _
      | exact LeO.none _
      | refine LeO.ite ?_ ?_
      | refine LeO.bind ?_ (fun _ => ?_)
set_option maxHeartbeats 8000000 in
set_option maxRecDepth 100000 in
theorem moraineref12_Hash.calls (k : Nat) (a0 : ByteArray) (a1 : Int) (r : Int) (w : World) (h : moraineref12_Hash.f k a0 a1 = some r) :
    Calls Try.prog 14 #[.string a0, .int .u32 a1] w fun e w' => e = .returned (.int .u32 r) ∧ Drawn0 w w' := by
  have H : (moraineref12_Hash.l0 k a0 3332679571 (Go.bits .xor .u32 a1 (((((a0.size : Int)) % 4294967296) * 3332679571) % 4294967296)) 0) = some r := h
  clear h
  have H' := Aside0.mk H
  clear H
  go_enter Try.func14, Try.ntmps14
  go_wp2
  go_loopg [6, 7] k (fun kq v6 v7 w' => ∃ (x6_1 : Int) (x7_1 : Int), v6 = .int .u32 x6_1 ∧ v7 = .int .i64 x7_1 ∧ Aside0 (moraineref12_Hash.l0 kq a0 3332679571 x6_1 x7_1 = some r) ∧ Aside0 (kq ≤ k) ∧ Drawn0 w w')
  case atStart => exact ⟨(Go.bits .xor .u32 a1 (((((a0.size : Int)) % 4294967296) * 3332679571) % 4294967296)), (0), (by first | rfl | (simp; done) | (simp [*]; done)), (by first | rfl | (simp; done) | (simp [*]; done)), H', ⟨Nat.le_refl _⟩, by repeat (first | exact Drawn0.refl _ | apply Drawn0.step)⟩
  case round =>
    clear H'
    try clear c1
    try clear p2
    obtain ⟨x6_1, x7_1, rfl, rfl, HA, HK1, ⟨m1, rfl⟩⟩ := hrel
    cases gk with
    | zero => exact absurd HA.out (by simp [moraineref12_Hash.l0])
    | succ k1 =>
      have H := HA.out
      clear HA
      simp only [moraineref12_Hash.l0] at H
      by_cases c3 : (wrap64 ((a0.size : Int) - x7_1)) ≥ 4
      · rw [if_pos c3] at H
        have c3b0 : decide (4 ≤ (wrap64 ((a0.size : Int) - x7_1))) = true := decide_eq_true c3
        clear c3
        replace H := Option.bind_eq_some_iff.mp H
        obtain ⟨t101, A40, H⟩ := H
        replace H : (moraineref12_Hash.l0 k1 a0 3332679571 (Go.bits .xor .u32 ((((x6_1 + t101) % 4294967296) * 3332679571) % 4294967296) (((((x6_1 + t101) % 4294967296) * 3332679571) % 4294967296) / 65536)) (wrap64 (x7_1 + 4))) = some r := H
        have A4 := Aside0.mk A40
        clear A40
        have H' := Aside0.mk H
        clear H
        go_wp2_with (first | ((with_reducible refine gate_callee (f := 25) rfl ?_); refine goesL_ (some 23) rfl rfl Try.func25 (by kernel_rfl) rfl #[.string a0, .int .i64 x7_1, .int .i64 4] rfl (by (try simp only [List.map_toArray, List.map_cons, List.map_nil]); first | done | rfl | (simp only [List.length_drop, List.length_take]; rfl)) ?_; (with_reducible refine (moraineref12_number.calls k1 a0 x7_1 4 t101 _ A4.out).mono ?_); rintro e w' ⟨rfl, ⟨nd, rfl⟩⟩; refine ⟨_, rfl, ?_⟩))
        go_roundg k1
        case measure => have := HK1.out; omega
        case rel => exact ⟨(Go.bits .xor .u32 ((((x6_1 + t101) % 4294967296) * 3332679571) % 4294967296) (((((x6_1 + t101) % 4294967296) * 3332679571) % 4294967296) / 65536)), (wrap64 (x7_1 + 4)), (by first | rfl | (simp; done) | (simp [*]; done)), (by first | rfl | (simp; done) | (simp [*]; done)), H', ⟨by have := HK1.out; omega⟩, by repeat (first | exact Drawn0.refl _ | apply Drawn0.step)⟩
      · rw [if_neg c3] at H
        have c3b0 : decide (4 ≤ (wrap64 ((a0.size : Int) - x7_1))) = false := decide_eq_false c3
        clear c3
        by_cases c5 : x7_1 < (a0.size : Int)
        · rw [if_pos c5] at H
          have c5b0 : decide (x7_1 < (a0.size : Int)) = true := decide_eq_true c5
          clear c5
          replace H := Option.bind_eq_some_iff.mp H
          obtain ⟨t102, A60, H⟩ := H
          replace H : (some (Go.bits .xor .u32 ((((x6_1 + t102) % 4294967296) * 3332679571) % 4294967296) (((((x6_1 + t102) % 4294967296) * 3332679571) % 4294967296) / 16777216))) = some r := H
          have A6 := Aside0.mk A60
          clear A60
          obtain rfl := Option.some.inj H
          go_wp2_with (first | ((with_reducible refine gate_callee (f := 25) rfl ?_); refine goesL_ (some 44) rfl rfl Try.func25 (by kernel_rfl) rfl #[.string a0, .int .i64 x7_1, .int .i64 (wrap64 ((a0.size : Int) - x7_1))] rfl (by (try simp only [List.map_toArray, List.map_cons, List.map_nil]); first | done | rfl | (simp only [List.length_drop, List.length_take]; rfl)) ?_; (with_reducible refine (moraineref12_number.calls k1 a0 x7_1 (wrap64 ((a0.size : Int) - x7_1)) t102 _ A6.out).mono ?_); rintro e w' ⟨rfl, ⟨nd, rfl⟩⟩; refine ⟨_, rfl, ?_⟩))
          go_ret
          exact ⟨by first | rfl | (simp; done) | (simp [*]; done), by repeat (first | exact Drawn0.refl _ | apply Drawn0.step)⟩
        · rw [if_neg c5] at H
          have c5b0 : decide (x7_1 < (a0.size : Int)) = false := decide_eq_false c5
          clear c5
          obtain rfl := Option.some.inj H
          go_wp2
          go_ret
          exact ⟨by first | rfl | (simp; done) | (simp [*]; done), by repeat (first | exact Drawn0.refl _ | apply Drawn0.step)⟩

end Go.Proofs.Yticbfcfpchongaa.G
