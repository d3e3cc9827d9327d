/- Printed by the session's program over the kit's print, out of the translation: functions as plain Lean functions, and the proofs that the calls come to them. -/
import Derived.Test.YticbfcfpchongaaGx0
namespace Go.Proofs.Yticbfcfpchongaa.G
open Go.RowKit Go.Proofs.YticbfcfpchongaaW.PrintWords Go.Proofs.YticbfcfpchongaaW.PrintLast Go.Proofs.YticbfcfpchongaaW.PrintMore
attribute [local go_sem] max2_int min2_int max_two min_two max_three min_three max_four min_four   -- for this text's walks alone
set_option linter.unusedVariables false
set_option linter.unusedSimpArgs false

/-! ### bloom_Hash: function 13 -/
def bloom_Hash.l0 : Nat → ByteArray → Int → Int → Option (Int)
  | 0, _, _, _ => none
  | k + 1, x0, x5, x6 => if (wrap64 (x6 + 4)) ≤ (x0.size : Int) then (if 0 ≤ x6 then (if x6 < (x0.size : Int) then (if 0 ≤ (wrap64 (x6 + 1)) then (if (wrap64 (x6 + 1)) < (x0.size : Int) then (if 0 ≤ (wrap64 (x6 + 2)) then (if (wrap64 (x6 + 2)) < (x0.size : Int) then (if 0 ≤ (wrap64 (x6 + 3)) then (if (wrap64 (x6 + 3)) < (x0.size : Int) then (bloom_Hash.l0 k x0 (Go.bits .xor .u32 ((((x5 + (Go.bits .or .u32 (Go.bits .or .u32 (Go.bits .or .u32 ((bt x0 x6) % 4294967296) ((((bt x0 (wrap64 (x6 + 1))) % 4294967296) * 256) % 4294967296)) ((((bt x0 (wrap64 (x6 + 2))) % 4294967296) * 65536) % 4294967296)) ((((bt x0 (wrap64 (x6 + 3))) % 4294967296) * 16777216) % 4294967296))) % 4294967296) * 3332679571) % 4294967296) (((((x5 + (Go.bits .or .u32 (Go.bits .or .u32 (Go.bits .or .u32 ((bt x0 x6) % 4294967296) ((((bt x0 (wrap64 (x6 + 1))) % 4294967296) * 256) % 4294967296)) ((((bt x0 (wrap64 (x6 + 2))) % 4294967296) * 65536) % 4294967296)) ((((bt x0 (wrap64 (x6 + 3))) % 4294967296) * 16777216) % 4294967296))) % 4294967296) * 3332679571) % 4294967296) / 65536)) (wrap64 (x6 + 4))) else (none)) else (none)) else (none)) else (none)) else (none)) else (none)) else (none)) else (none)) else (if (wrap64 ((x0.size : Int) - x6)) = 3 then (if 0 ≤ (wrap64 (x6 + 2)) then (if (wrap64 (x6 + 2)) < (x0.size : Int) then (if 0 ≤ (wrap64 (x6 + 1)) then (if (wrap64 (x6 + 1)) < (x0.size : Int) then (if 0 ≤ x6 then (if x6 < (x0.size : Int) then (some (Go.bits .xor .u32 ((((((((x5 + ((((bt x0 (wrap64 (x6 + 2))) % 4294967296) * 65536) % 4294967296)) % 4294967296) + ((((bt x0 (wrap64 (x6 + 1))) % 4294967296) * 256) % 4294967296)) % 4294967296) + ((bt x0 x6) % 4294967296)) % 4294967296) * 3332679571) % 4294967296) (((((((((x5 + ((((bt x0 (wrap64 (x6 + 2))) % 4294967296) * 65536) % 4294967296)) % 4294967296) + ((((bt x0 (wrap64 (x6 + 1))) % 4294967296) * 256) % 4294967296)) % 4294967296) + ((bt x0 x6) % 4294967296)) % 4294967296) * 3332679571) % 4294967296) / 16777216))) else (none)) else (none)) else (none)) else (none)) else (none)) else (none)) else (if (wrap64 ((x0.size : Int) - x6)) = 2 then (if 0 ≤ (wrap64 (x6 + 1)) then (if (wrap64 (x6 + 1)) < (x0.size : Int) then (if 0 ≤ x6 then (if x6 < (x0.size : Int) then (some (Go.bits .xor .u32 ((((((x5 + ((((bt x0 (wrap64 (x6 + 1))) % 4294967296) * 256) % 4294967296)) % 4294967296) + ((bt x0 x6) % 4294967296)) % 4294967296) * 3332679571) % 4294967296) (((((((x5 + ((((bt x0 (wrap64 (x6 + 1))) % 4294967296) * 256) % 4294967296)) % 4294967296) + ((bt x0 x6) % 4294967296)) % 4294967296) * 3332679571) % 4294967296) / 16777216))) else (none)) else (none)) else (none)) else (none)) else (if (wrap64 ((x0.size : Int) - x6)) = 1 then (if 0 ≤ x6 then (if x6 < (x0.size : Int) then (some (Go.bits .xor .u32 ((((x5 + ((bt x0 x6) % 4294967296)) % 4294967296) * 3332679571) % 4294967296) (((((x5 + ((bt x0 x6) % 4294967296)) % 4294967296) * 3332679571) % 4294967296) / 16777216))) else (none)) else (none)) else (some x5))))
def bloom_Hash.f (k : Nat) (a0 : ByteArray) (a1 : Int) : Option (Int) := bloom_Hash.l0 k a0 (Go.bits .xor .u32 a1 (((((a0.size : Int)) % 4294967296) * 3332679571) % 4294967296)) 0
theorem bloom_Hash.mono_l : ∀ k, (∀ y0 y1 y2, LeO (bloom_Hash.l0 k y0 y1 y2) (bloom_Hash.l0 (k + 1) y0 y1 y2))
  | 0 => fun _ _ _ r h => by simp [bloom_Hash.l0] at h
  | k + 1 => by
    have ih0 := bloom_Hash.mono_l k
    · intro y0 y1 y2
      unfold bloom_Hash.l0
      repeat' first
      | (with_reducible exact ih0 _ _ _)
      | (with_reducible exact LeO.refl _)
      | (with_reducible exact LeO.none _)
      | (with_reducible refine LeO.ite ?_ ?_)
      | (with_reducible refine LeO.bind ?_ (fun _ => ?_))
      | exact ih0 _ _ _
      | exact LeO.none _
      | refine LeO.ite ?_ ?_
      | refine LeO.bind ?_ (fun _ => ?_)
theorem bloom_Hash.mono : ∀ a0 a1 k, LeO (bloom_Hash.f k a0 a1) (bloom_Hash.f (k + 1) a0 a1) := by
  intro a0 a1 k
  have ih0 := bloom_Hash.mono_l k
  unfold bloom_Hash.f
  repeat' first
      | (with_reducible exact ih0 _ _ _)
      | (with_reducible exact LeO.refl _)
      | (with_reducible exact LeO.none _)
      | (with_reducible refine LeO.ite ?_ ?_)
      | (with_reducible refine LeO.bind ?_ (fun _ => ?_))
      | exact ih0 _ _ _
      | exact LeO.none _
      | refine LeO.ite ?_ ?_
      | refine LeO.bind ?_ (fun _ => ?_)
set_option maxHeartbeats 8000000 in
set_option maxRecDepth 100000 in
theorem bloom_Hash.calls (k : Nat) (a0 : ByteArray) (a1 : Int) (r : Int) (w : World) (h : bloom_Hash.f k a0 a1 = some r) :
    Calls Try.prog 13 #[.string a0, .int .u32 a1] w fun e w' => e = .returned (.int .u32 r) ∧ Drawn0 w w' := by
  have H : (bloom_Hash.l0 k a0 (Go.bits .xor .u32 a1 (((((a0.size : Int)) % 4294967296) * 3332679571) % 4294967296)) 0) = some r := h
  clear h
  have H' := Aside0.mk H
  clear H
  go_enter Try.func13, Try.ntmps13
  go_wp2
  repeat (go_quiet (fail); try go_wp2)
  go_loopg [5, 6] k (fun kq v5 v6 w' => ∃ (x5_1 : Int) (x6_1 : Int), v5 = .int .u32 x5_1 ∧ v6 = .int .i64 x6_1 ∧ Aside0 (bloom_Hash.l0 kq a0 x5_1 x6_1 = some r) ∧ Aside0 (kq ≤ k) ∧ Drawn0 w w')
  case atStart => exact ⟨(Go.bits .xor .u32 a1 (((((a0.size : Int)) % 4294967296) * 3332679571) % 4294967296)), (0), (by first | rfl | (simp; done) | (simp [*]; done)), (by first | rfl | (simp; done) | (simp [*]; done)), H', ⟨Nat.le_refl _⟩, by repeat (first | exact Drawn0.refl _ | apply Drawn0.step)⟩
  case round =>
    clear H'
    try clear c1
    try clear p2
    obtain ⟨x5_1, x6_1, rfl, rfl, HA, HK1, ⟨m1, rfl⟩⟩ := hrel
    cases gk with
    | zero => exact absurd HA.out (by simp [bloom_Hash.l0])
    | succ k1 =>
      have H := HA.out
      clear HA
      simp only [bloom_Hash.l0] at H
      by_cases c3 : (wrap64 (x6_1 + 4)) ≤ (a0.size : Int)
      · rw [if_pos c3] at H
        have c3b0 : decide ((wrap64 (x6_1 + 4)) ≤ (a0.size : Int)) = true := decide_eq_true c3
        clear c3
        by_cases c4 : 0 ≤ x6_1
        · rw [if_pos c4] at H
          have c4b0 : decide (0 ≤ x6_1) = true := decide_eq_true c4
          clear c4
          by_cases c5 : x6_1 < (a0.size : Int)
          · rw [if_pos c5] at H
            have c5b0 : decide (x6_1 < (a0.size : Int)) = true := decide_eq_true c5
            clear c5
            obtain ⟨ji7, hji7⟩ : ∃ j_ : Int, (wrap64 (x6_1 + 1)) = j_ := ⟨_, rfl⟩
            replace H : (if 0 ≤ (ji7) then (if (ji7) < (a0.size : Int) then (if 0 ≤ (wrap64 (x6_1 + 2)) then (if (wrap64 (x6_1 + 2)) < (a0.size : Int) then (if 0 ≤ (wrap64 (x6_1 + 3)) then (if (wrap64 (x6_1 + 3)) < (a0.size : Int) then (bloom_Hash.l0 k1 a0 (Go.bits .xor .u32 ((((x5_1 + (Go.bits .or .u32 (Go.bits .or .u32 (Go.bits .or .u32 ((bt a0 x6_1) % 4294967296) ((((bt a0 (ji7)) % 4294967296) * 256) % 4294967296)) ((((bt a0 (wrap64 (x6_1 + 2))) % 4294967296) * 65536) % 4294967296)) ((((bt a0 (wrap64 (x6_1 + 3))) % 4294967296) * 16777216) % 4294967296))) % 4294967296) * 3332679571) % 4294967296) (((((x5_1 + (Go.bits .or .u32 (Go.bits .or .u32 (Go.bits .or .u32 ((bt a0 x6_1) % 4294967296) ((((bt a0 (ji7)) % 4294967296) * 256) % 4294967296)) ((((bt a0 (wrap64 (x6_1 + 2))) % 4294967296) * 65536) % 4294967296)) ((((bt a0 (wrap64 (x6_1 + 3))) % 4294967296) * 16777216) % 4294967296))) % 4294967296) * 3332679571) % 4294967296) / 65536)) (wrap64 (x6_1 + 4))) else (none)) else (none)) else (none)) else (none)) else (none)) else (none)) = some r := by first | (rw [hji7] at H; exact H) | (simp only [hji7] at H ⊢; exact H)
            have hji7w : (IntKind.i64.wrap (x6_1 + 1)) = ji7 := (i64_w _).trans hji7
            by_cases c8 : 0 ≤ (ji7)
            · rw [if_pos c8] at H
              have c8b0 : decide (0 ≤ (ji7)) = true := decide_eq_true c8
              clear c8
              by_cases c9 : (ji7) < (a0.size : Int)
              · rw [if_pos c9] at H
                have c9b0 : decide ((ji7) < (a0.size : Int)) = true := decide_eq_true c9
                clear c9
                obtain ⟨ji11, hji11⟩ : ∃ j_ : Int, (wrap64 (x6_1 + 2)) = j_ := ⟨_, rfl⟩
                replace H : (if 0 ≤ (ji11) then (if (ji11) < (a0.size : Int) then (if 0 ≤ (wrap64 (x6_1 + 3)) then (if (wrap64 (x6_1 + 3)) < (a0.size : Int) then (bloom_Hash.l0 k1 a0 (Go.bits .xor .u32 ((((x5_1 + (Go.bits .or .u32 (Go.bits .or .u32 (Go.bits .or .u32 ((bt a0 x6_1) % 4294967296) ((((bt a0 (ji7)) % 4294967296) * 256) % 4294967296)) ((((bt a0 (ji11)) % 4294967296) * 65536) % 4294967296)) ((((bt a0 (wrap64 (x6_1 + 3))) % 4294967296) * 16777216) % 4294967296))) % 4294967296) * 3332679571) % 4294967296) (((((x5_1 + (Go.bits .or .u32 (Go.bits .or .u32 (Go.bits .or .u32 ((bt a0 x6_1) % 4294967296) ((((bt a0 (ji7)) % 4294967296) * 256) % 4294967296)) ((((bt a0 (ji11)) % 4294967296) * 65536) % 4294967296)) ((((bt a0 (wrap64 (x6_1 + 3))) % 4294967296) * 16777216) % 4294967296))) % 4294967296) * 3332679571) % 4294967296) / 65536)) (wrap64 (x6_1 + 4))) else (none)) else (none)) else (none)) else (none)) = some r := by first | (rw [hji11] at H; exact H) | (simp only [hji11] at H ⊢; exact H)
                have hji11w : (IntKind.i64.wrap (x6_1 + 2)) = ji11 := (i64_w _).trans hji11
                by_cases c12 : 0 ≤ (ji11)
                · rw [if_pos c12] at H
                  have c12b0 : decide (0 ≤ (ji11)) = true := decide_eq_true c12
                  clear c12
                  by_cases c13 : (ji11) < (a0.size : Int)
                  · rw [if_pos c13] at H
                    have c13b0 : decide ((ji11) < (a0.size : Int)) = true := decide_eq_true c13
                    clear c13
                    obtain ⟨ji15, hji15⟩ : ∃ j_ : Int, (wrap64 (x6_1 + 3)) = j_ := ⟨_, rfl⟩
                    replace H : (if 0 ≤ (ji15) then (if (ji15) < (a0.size : Int) then (bloom_Hash.l0 k1 a0 (Go.bits .xor .u32 ((((x5_1 + (Go.bits .or .u32 (Go.bits .or .u32 (Go.bits .or .u32 ((bt a0 x6_1) % 4294967296) ((((bt a0 (ji7)) % 4294967296) * 256) % 4294967296)) ((((bt a0 (ji11)) % 4294967296) * 65536) % 4294967296)) ((((bt a0 (ji15)) % 4294967296) * 16777216) % 4294967296))) % 4294967296) * 3332679571) % 4294967296) (((((x5_1 + (Go.bits .or .u32 (Go.bits .or .u32 (Go.bits .or .u32 ((bt a0 x6_1) % 4294967296) ((((bt a0 (ji7)) % 4294967296) * 256) % 4294967296)) ((((bt a0 (ji11)) % 4294967296) * 65536) % 4294967296)) ((((bt a0 (ji15)) % 4294967296) * 16777216) % 4294967296))) % 4294967296) * 3332679571) % 4294967296) / 65536)) (wrap64 (x6_1 + 4))) else (none)) else (none)) = some r := by first | (rw [hji15] at H; exact H) | (simp only [hji15] at H ⊢; exact H)
                    have hji15w : (IntKind.i64.wrap (x6_1 + 3)) = ji15 := (i64_w _).trans hji15
                    by_cases c16 : 0 ≤ (ji15)
                    · rw [if_pos c16] at H
                      have c16b0 : decide (0 ≤ (ji15)) = true := decide_eq_true c16
                      clear c16
                      by_cases c17 : (ji15) < (a0.size : Int)
                      · rw [if_pos c17] at H
                        have c17b0 : decide ((ji15) < (a0.size : Int)) = true := decide_eq_true c17
                        clear c17
                        have H' := Aside0.mk H
                        clear H
                        have p6 : 0 ≤ (x6_1 : Int) := of_decide_eq_true (by first | (with_reducible assumption) | assumption)
                        have q6 : x6_1 < (a0.size : Int) := of_decide_eq_true (by first | (with_reducible assumption) | assumption)
                        have hx6 := bt_at a0 x6_1
                        replace p6 := eq_true p6
                        replace q6 := eq_true q6
                        have p10 : 0 ≤ ((ji7) : Int) := of_decide_eq_true (by first | (with_reducible assumption) | assumption)
                        have q10 : (ji7) < (a0.size : Int) := of_decide_eq_true (by first | (with_reducible assumption) | assumption)
                        have hx10 := bt_at a0 (ji7)
                        replace p10 := eq_true p10
                        replace q10 := eq_true q10
                        have p14 : 0 ≤ ((ji11) : Int) := of_decide_eq_true (by first | (with_reducible assumption) | assumption)
                        have q14 : (ji11) < (a0.size : Int) := of_decide_eq_true (by first | (with_reducible assumption) | assumption)
                        have hx14 := bt_at a0 (ji11)
                        replace p14 := eq_true p14
                        replace q14 := eq_true q14
                        have p18 : 0 ≤ ((ji15) : Int) := of_decide_eq_true (by first | (with_reducible assumption) | assumption)
                        have q18 : (ji15) < (a0.size : Int) := of_decide_eq_true (by first | (with_reducible assumption) | assumption)
                        have hx18 := bt_at a0 (ji15)
                        replace p18 := eq_true p18
                        replace q18 := eq_true q18
                        go_wp2
                        repeat (go_quiet (fail); try go_wp2)
                        go_roundg k1
                        case measure => have := HK1.out; omega
                        case rel => exact ⟨(Go.bits .xor .u32 ((((x5_1 + (Go.bits .or .u32 (Go.bits .or .u32 (Go.bits .or .u32 ((bt a0 x6_1) % 4294967296) ((((bt a0 (ji7)) % 4294967296) * 256) % 4294967296)) ((((bt a0 (ji11)) % 4294967296) * 65536) % 4294967296)) ((((bt a0 (ji15)) % 4294967296) * 16777216) % 4294967296))) % 4294967296) * 3332679571) % 4294967296) (((((x5_1 + (Go.bits .or .u32 (Go.bits .or .u32 (Go.bits .or .u32 ((bt a0 x6_1) % 4294967296) ((((bt a0 (ji7)) % 4294967296) * 256) % 4294967296)) ((((bt a0 (ji11)) % 4294967296) * 65536) % 4294967296)) ((((bt a0 (ji15)) % 4294967296) * 16777216) % 4294967296))) % 4294967296) * 3332679571) % 4294967296) / 65536)), (wrap64 (x6_1 + 4)), (by first | rfl | (simp; done) | (simp only [← hji7, ← hji11, ← hji15] <;> (first | rfl | simp)) | (simp [*]; done)), (by first | rfl | (simp; done) | (simp [*]; done)), H', ⟨by have := HK1.out; omega⟩, by repeat (first | exact Drawn0.refl _ | apply Drawn0.step)⟩
                      · rw [if_neg c17] at H
                        exact absurd H (by simp)
                    · rw [if_neg c16] at H
                      exact absurd H (by simp)
                  · rw [if_neg c13] at H
                    exact absurd H (by simp)
                · rw [if_neg c12] at H
                  exact absurd H (by simp)
              · rw [if_neg c9] at H
                exact absurd H (by simp)
            · rw [if_neg c8] at H
              exact absurd H (by simp)
          · rw [if_neg c5] at H
            exact absurd H (by simp)
        · rw [if_neg c4] at H
          exact absurd H (by simp)
      · rw [if_neg c3] at H
        have c3b0 : decide ((wrap64 (x6_1 + 4)) ≤ (a0.size : Int)) = false := decide_eq_false c3
        clear c3
        by_cases c19 : (wrap64 ((a0.size : Int) - x6_1)) = 3
        · rw [if_pos c19] at H
          have c19b0 : ((wrap64 ((a0.size : Int) - x6_1)) == 3) = true := beq_iff_eq.mpr c19
          have c19b1 : ((wrap64 ((a0.size : Int) - x6_1)) != 3) = false := bne_eq_false_iff_eq.mpr c19
          clear c19
          obtain ⟨ji20, hji20⟩ : ∃ j_ : Int, (wrap64 (x6_1 + 2)) = j_ := ⟨_, rfl⟩
          replace H : (if 0 ≤ (ji20) then (if (ji20) < (a0.size : Int) then (if 0 ≤ (wrap64 (x6_1 + 1)) then (if (wrap64 (x6_1 + 1)) < (a0.size : Int) then (if 0 ≤ x6_1 then (if x6_1 < (a0.size : Int) then (some (Go.bits .xor .u32 ((((((((x5_1 + ((((bt a0 (ji20)) % 4294967296) * 65536) % 4294967296)) % 4294967296) + ((((bt a0 (wrap64 (x6_1 + 1))) % 4294967296) * 256) % 4294967296)) % 4294967296) + ((bt a0 x6_1) % 4294967296)) % 4294967296) * 3332679571) % 4294967296) (((((((((x5_1 + ((((bt a0 (ji20)) % 4294967296) * 65536) % 4294967296)) % 4294967296) + ((((bt a0 (wrap64 (x6_1 + 1))) % 4294967296) * 256) % 4294967296)) % 4294967296) + ((bt a0 x6_1) % 4294967296)) % 4294967296) * 3332679571) % 4294967296) / 16777216))) else (none)) else (none)) else (none)) else (none)) else (none)) else (none)) = some r := by first | (rw [hji20] at H; exact H) | (simp only [hji20] at H ⊢; exact H)
          have hji20w : (IntKind.i64.wrap (x6_1 + 2)) = ji20 := (i64_w _).trans hji20
          by_cases c21 : 0 ≤ (ji20)
          · rw [if_pos c21] at H
            have c21b0 : decide (0 ≤ (ji20)) = true := decide_eq_true c21
            clear c21
            by_cases c22 : (ji20) < (a0.size : Int)
            · rw [if_pos c22] at H
              have c22b0 : decide ((ji20) < (a0.size : Int)) = true := decide_eq_true c22
              clear c22
              obtain ⟨ji24, hji24⟩ : ∃ j_ : Int, (wrap64 (x6_1 + 1)) = j_ := ⟨_, rfl⟩
              replace H : (if 0 ≤ (ji24) then (if (ji24) < (a0.size : Int) then (if 0 ≤ x6_1 then (if x6_1 < (a0.size : Int) then (some (Go.bits .xor .u32 ((((((((x5_1 + ((((bt a0 (ji20)) % 4294967296) * 65536) % 4294967296)) % 4294967296) + ((((bt a0 (ji24)) % 4294967296) * 256) % 4294967296)) % 4294967296) + ((bt a0 x6_1) % 4294967296)) % 4294967296) * 3332679571) % 4294967296) (((((((((x5_1 + ((((bt a0 (ji20)) % 4294967296) * 65536) % 4294967296)) % 4294967296) + ((((bt a0 (ji24)) % 4294967296) * 256) % 4294967296)) % 4294967296) + ((bt a0 x6_1) % 4294967296)) % 4294967296) * 3332679571) % 4294967296) / 16777216))) else (none)) else (none)) else (none)) else (none)) = some r := by first | (rw [hji24] at H; exact H) | (simp only [hji24] at H ⊢; exact H)
              have hji24w : (IntKind.i64.wrap (x6_1 + 1)) = ji24 := (i64_w _).trans hji24
              by_cases c25 : 0 ≤ (ji24)
              · rw [if_pos c25] at H
                have c25b0 : decide (0 ≤ (ji24)) = true := decide_eq_true c25
                clear c25
                by_cases c26 : (ji24) < (a0.size : Int)
                · rw [if_pos c26] at H
                  have c26b0 : decide ((ji24) < (a0.size : Int)) = true := decide_eq_true c26
                  clear c26
                  by_cases c28 : 0 ≤ x6_1
                  · rw [if_pos c28] at H
                    have c28b0 : decide (0 ≤ x6_1) = true := decide_eq_true c28
                    clear c28
                    by_cases c29 : x6_1 < (a0.size : Int)
                    · rw [if_pos c29] at H
                      have c29b0 : decide (x6_1 < (a0.size : Int)) = true := decide_eq_true c29
                      clear c29
                      obtain rfl := Option.some.inj H
                      have p23 : 0 ≤ ((ji20) : Int) := of_decide_eq_true (by first | (with_reducible assumption) | assumption)
                      have q23 : (ji20) < (a0.size : Int) := of_decide_eq_true (by first | (with_reducible assumption) | assumption)
                      have hx23 := bt_at a0 (ji20)
                      replace p23 := eq_true p23
                      replace q23 := eq_true q23
                      have p27 : 0 ≤ ((ji24) : Int) := of_decide_eq_true (by first | (with_reducible assumption) | assumption)
                      have q27 : (ji24) < (a0.size : Int) := of_decide_eq_true (by first | (with_reducible assumption) | assumption)
                      have hx27 := bt_at a0 (ji24)
                      replace p27 := eq_true p27
                      replace q27 := eq_true q27
                      have p30 : 0 ≤ (x6_1 : Int) := of_decide_eq_true (by first | (with_reducible assumption) | assumption)
                      have q30 : x6_1 < (a0.size : Int) := of_decide_eq_true (by first | (with_reducible assumption) | assumption)
                      have hx30 := bt_at a0 x6_1
                      replace p30 := eq_true p30
                      replace q30 := eq_true q30
                      go_wp2
                      repeat (go_quiet (fail); try go_wp2)
                      go_ret
                      exact ⟨by first | rfl | (simp; done) | (simp only [← hji20, ← hji24] <;> (first | rfl | simp)) | (simp [*]; done), by repeat (first | exact Drawn0.refl _ | apply Drawn0.step)⟩
                    · rw [if_neg c29] at H
                      exact absurd H (by simp)
                  · rw [if_neg c28] at H
                    exact absurd H (by simp)
                · rw [if_neg c26] at H
                  exact absurd H (by simp)
              · rw [if_neg c25] at H
                exact absurd H (by simp)
            · rw [if_neg c22] at H
              exact absurd H (by simp)
          · rw [if_neg c21] at H
            exact absurd H (by simp)
        · rw [if_neg c19] at H
          have c19b0 : ((wrap64 ((a0.size : Int) - x6_1)) == 3) = false := beq_eq_false_iff_ne.mpr c19
          have c19b1 : ((wrap64 ((a0.size : Int) - x6_1)) != 3) = true := bne_iff_ne.mpr c19
          by_cases c31 : (wrap64 ((a0.size : Int) - x6_1)) = 2
          · rw [if_pos c31] at H
            have c31b0 : ((wrap64 ((a0.size : Int) - x6_1)) == 2) = true := beq_iff_eq.mpr c31
            have c31b1 : ((wrap64 ((a0.size : Int) - x6_1)) != 2) = false := bne_eq_false_iff_eq.mpr c31
            clear c31
            obtain ⟨ji32, hji32⟩ : ∃ j_ : Int, (wrap64 (x6_1 + 1)) = j_ := ⟨_, rfl⟩
            replace H : (if 0 ≤ (ji32) then (if (ji32) < (a0.size : Int) then (if 0 ≤ x6_1 then (if x6_1 < (a0.size : Int) then (some (Go.bits .xor .u32 ((((((x5_1 + ((((bt a0 (ji32)) % 4294967296) * 256) % 4294967296)) % 4294967296) + ((bt a0 x6_1) % 4294967296)) % 4294967296) * 3332679571) % 4294967296) (((((((x5_1 + ((((bt a0 (ji32)) % 4294967296) * 256) % 4294967296)) % 4294967296) + ((bt a0 x6_1) % 4294967296)) % 4294967296) * 3332679571) % 4294967296) / 16777216))) else (none)) else (none)) else (none)) else (none)) = some r := by first | (rw [hji32] at H; exact H) | (simp only [hji32] at H ⊢; exact H)
            have hji32w : (IntKind.i64.wrap (x6_1 + 1)) = ji32 := (i64_w _).trans hji32
            by_cases c33 : 0 ≤ (ji32)
            · rw [if_pos c33] at H
              have c33b0 : decide (0 ≤ (ji32)) = true := decide_eq_true c33
              clear c33
              by_cases c34 : (ji32) < (a0.size : Int)
              · rw [if_pos c34] at H
                have c34b0 : decide ((ji32) < (a0.size : Int)) = true := decide_eq_true c34
                clear c34
                by_cases c36 : 0 ≤ x6_1
                · rw [if_pos c36] at H
                  have c36b0 : decide (0 ≤ x6_1) = true := decide_eq_true c36
                  clear c36
                  by_cases c37 : x6_1 < (a0.size : Int)
                  · rw [if_pos c37] at H
                    have c37b0 : decide (x6_1 < (a0.size : Int)) = true := decide_eq_true c37
                    clear c37
                    obtain rfl := Option.some.inj H
                    have p35 : 0 ≤ ((ji32) : Int) := of_decide_eq_true (by first | (with_reducible assumption) | assumption)
                    have q35 : (ji32) < (a0.size : Int) := of_decide_eq_true (by first | (with_reducible assumption) | assumption)
                    have hx35 := bt_at a0 (ji32)
                    replace p35 := eq_true p35
                    replace q35 := eq_true q35
                    have p38 : 0 ≤ (x6_1 : Int) := of_decide_eq_true (by first | (with_reducible assumption) | assumption)
                    have q38 : x6_1 < (a0.size : Int) := of_decide_eq_true (by first | (with_reducible assumption) | assumption)
                    have hx38 := bt_at a0 x6_1
                    replace p38 := eq_true p38
                    replace q38 := eq_true q38
                    go_wp2
                    repeat (go_quiet (fail); try go_wp2)
                    go_ret
                    exact ⟨by first | rfl | (simp; done) | (simp only [← hji32] <;> (first | rfl | simp)) | (simp [*]; done), by repeat (first | exact Drawn0.refl _ | apply Drawn0.step)⟩
                  · rw [if_neg c37] at H
                    exact absurd H (by simp)
                · rw [if_neg c36] at H
                  exact absurd H (by simp)
              · rw [if_neg c34] at H
                exact absurd H (by simp)
            · rw [if_neg c33] at H
              exact absurd H (by simp)
          · rw [if_neg c31] at H
            have c31b0 : ((wrap64 ((a0.size : Int) - x6_1)) == 2) = false := beq_eq_false_iff_ne.mpr c31
            have c31b1 : ((wrap64 ((a0.size : Int) - x6_1)) != 2) = true := bne_iff_ne.mpr c31
            by_cases c39 : (wrap64 ((a0.size : Int) - x6_1)) = 1
            · rw [if_pos c39] at H
              have c39b0 : ((wrap64 ((a0.size : Int) - x6_1)) == 1) = true := beq_iff_eq.mpr c39
              have c39b1 : ((wrap64 ((a0.size : Int) - x6_1)) != 1) = false := bne_eq_false_iff_eq.mpr c39
              clear c39
              by_cases c40 : 0 ≤ x6_1
              · rw [if_pos c40] at H
                have c40b0 : decide (0 ≤ x6_1) = true := decide_eq_true c40
                clear c40
                by_cases c41 : x6_1 < (a0.size : Int)
                · rw [if_pos c41] at H
                  have c41b0 : decide (x6_1 < (a0.size : Int)) = true := decide_eq_true c41
                  clear c41
                  obtain rfl := Option.some.inj H
                  have p42 : 0 ≤ (x6_1 : Int) := of_decide_eq_true (by first | (with_reducible assumption) | assumption)
                  have q42 : x6_1 < (a0.size : Int) := of_decide_eq_true (by first | (with_reducible assumption) | assumption)
                  have hx42 := bt_at a0 x6_1
                  replace p42 := eq_true p42
                  replace q42 := eq_true q42
                  go_wp2
                  repeat (go_quiet (fail); try go_wp2)
                  go_ret
                  exact ⟨by first | rfl | (simp; done) | (simp [*]; done), by repeat (first | exact Drawn0.refl _ | apply Drawn0.step)⟩
                · rw [if_neg c41] at H
                  exact absurd H (by simp)
              · rw [if_neg c40] at H
                exact absurd H (by simp)
            · rw [if_neg c39] at H
              have c39b0 : ((wrap64 ((a0.size : Int) - x6_1)) == 1) = false := beq_eq_false_iff_ne.mpr c39
              have c39b1 : ((wrap64 ((a0.size : Int) - x6_1)) != 1) = true := bne_iff_ne.mpr c39
              obtain rfl := Option.some.inj H
              go_wp2
              repeat (go_quiet (fail); try go_wp2)
              go_ret
              exact ⟨by first | rfl | (simp; done) | (simp [*]; done), by repeat (first | exact Drawn0.refl _ | apply Drawn0.step)⟩

end Go.Proofs.Yticbfcfpchongaa.G
