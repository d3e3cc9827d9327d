-- PRINTED BY print.sh 35421559b90ae4d0a3588c463048766b98c2df88dd9212a6774a882060cdf62d: not written by this session
import Derived.Test.YticbfcfpchongaaPBloomHashesx0
namespace Go.Proofs.Yticbfcfpchongaa.PBloomHashes
open Go.RowKit Go.Proofs.YticbfcfpchongaaW.PrintWords Go.Proofs.YticbfcfpchongaaW.PrintLast Go.Proofs.YticbfcfpchongaaW.PrintMore
attribute [local go_sem] max2_int min2_int max_two min_two max_three min_three max_four min_four   -- for this text's walks alone
set_option linter.unusedVariables false
set_option linter.unusedSimpArgs false

/-! ### morainelaw12_names: function 12 -/
def morainelaw12_names.f  : Option (Bool) := some true
set_option maxHeartbeats 8000000 in
set_option maxRecDepth 100000 in
theorem morainelaw12_names.calls  (r : Bool) (w : World) (h : morainelaw12_names.f  = some r) :
    Calls Try.prog 12 #[] w fun e w' => e = .returned (.bool r) ∧ Drawn0 w w' := by
  have H : (some true) = some r := h
  clear h
  obtain rfl := Option.some.inj H
  go_enter Try.func12, Try.ntmps12
  go_wp2
  go_ret
  exact ⟨by first | rfl | (simp; done) | (simp [*]; done), by repeat (first | exact Drawn0.refl _ | apply Drawn0.step)⟩

/-! ### bloom_Hash: function 13 -/
def bloom_Hash.l0 : Nat → ByteArray → Int → Int → Option (Int)
  | 0, _, _, _ => none
  | k + 1, x0, x5, x6 => if (wrap64 (x6 + 4)) ≤ (x0.size : Int) then (if 0 ≤ x6 then (if x6 < (x0.size : Int) then (if 0 ≤ (wrap64 (x6 + 1)) then (if (wrap64 (x6 + 1)) < (x0.size : Int) then (if 0 ≤ (wrap64 (x6 + 2)) then (if (wrap64 (x6 + 2)) < (x0.size : Int) then (if 0 ≤ (wrap64 (x6 + 3)) then (if (wrap64 (x6 + 3)) < (x0.size : Int) then (bloom_Hash.l0 k x0 (Go.bits .xor .u32 ((((x5 + (Go.bits .or .u32 (Go.bits .or .u32 (Go.bits .or .u32 ((bt x0 x6) % 4294967296) ((((bt x0 (wrap64 (x6 + 1))) % 4294967296) * 256) % 4294967296)) ((((bt x0 (wrap64 (x6 + 2))) % 4294967296) * 65536) % 4294967296)) ((((bt x0 (wrap64 (x6 + 3))) % 4294967296) * 16777216) % 4294967296))) % 4294967296) * 3332679571) % 4294967296) (((((x5 + (Go.bits .or .u32 (Go.bits .or .u32 (Go.bits .or .u32 ((bt x0 x6) % 4294967296) ((((bt x0 (wrap64 (x6 + 1))) % 4294967296) * 256) % 4294967296)) ((((bt x0 (wrap64 (x6 + 2))) % 4294967296) * 65536) % 4294967296)) ((((bt x0 (wrap64 (x6 + 3))) % 4294967296) * 16777216) % 4294967296))) % 4294967296) * 3332679571) % 4294967296) / 65536)) (wrap64 (x6 + 4))) else (none)) else (none)) else (none)) else (none)) else (none)) else (none)) else (none)) else (none)) else (if (wrap64 ((x0.size : Int) - x6)) = 3 then (if 0 ≤ (wrap64 (x6 + 2)) then (if (wrap64 (x6 + 2)) < (x0.size : Int) then (if 0 ≤ (wrap64 (x6 + 1)) then (if (wrap64 (x6 + 1)) < (x0.size : Int) then (if 0 ≤ x6 then (if x6 < (x0.size : Int) then (some (Go.bits .xor .u32 ((((((((x5 + ((((bt x0 (wrap64 (x6 + 2))) % 4294967296) * 65536) % 4294967296)) % 4294967296) + ((((bt x0 (wrap64 (x6 + 1))) % 4294967296) * 256) % 4294967296)) % 4294967296) + ((bt x0 x6) % 4294967296)) % 4294967296) * 3332679571) % 4294967296) (((((((((x5 + ((((bt x0 (wrap64 (x6 + 2))) % 4294967296) * 65536) % 4294967296)) % 4294967296) + ((((bt x0 (wrap64 (x6 + 1))) % 4294967296) * 256) % 4294967296)) % 4294967296) + ((bt x0 x6) % 4294967296)) % 4294967296) * 3332679571) % 4294967296) / 16777216))) else (none)) else (none)) else (none)) else (none)) else (none)) else (none)) else (if (wrap64 ((x0.size : Int) - x6)) = 2 then (if 0 ≤ (wrap64 (x6 + 1)) then (if (wrap64 (x6 + 1)) < (x0.size : Int) then (if 0 ≤ x6 then (if x6 < (x0.size : Int) then (some (Go.bits .xor .u32 ((((((x5 + ((((bt x0 (wrap64 (x6 + 1))) % 4294967296) * 256) % 4294967296)) % 4294967296) + ((bt x0 x6) % 4294967296)) % 4294967296) * 3332679571) % 4294967296) (((((((x5 + ((((bt x0 (wrap64 (x6 + 1))) % 4294967296) * 256) % 4294967296)) % 4294967296) + ((bt x0 x6) % 4294967296)) % 4294967296) * 3332679571) % 4294967296) / 16777216))) else (none)) else (none)) else (none)) else (none)) else (if (wrap64 ((x0.size : Int) - x6)) = 1 then (if 0 ≤ x6 then (if x6 < (x0.size : Int) then (some (Go.bits .xor .u32 ((((x5 + ((bt x0 x6) % 4294967296)) % 4294967296) * 3332679571) % 4294967296) (((((x5 + ((bt x0 x6) % 4294967296)) % 4294967296) * 3332679571) % 4294967296) / 16777216))) else (none)) else (none)) else (some x5))))
def bloom_Hash.f (k : Nat) (a0 : ByteArray) (a1 : Int) : Option (Int) := bloom_Hash.l0 k a0 (Go.bits .xor .u32 a1 (((((a0.size : Int)) % 4294967296) * 3332679571) % 4294967296)) 0
theorem bloom_Hash.mono_l : ∀ k, (∀ y0 y1 y2, LeO (bloom_Hash.l0 k y0 y1 y2) (bloom_Hash.l0 (k + 1) y0 y1 y2))
  | 0 => fun _ _ _ r h => by simp [bloom_Hash.l0] at h
  | k + 1 => by
    have ih0 := bloom_Hash.mono_l k
    · intro y0 y1 y2
      unfold bloom_Hash.l0
      repeat' first
      | (with_reducible exact ih0 _ _ _)
      | (with_reducible exact LeO.refl _)
      | (with_reducible exact LeO.none _)
      | (with_reducible refine LeO.ite ?_ ?_)
      | (with_reducible refine LeO.bind ?_ (fun _ => ?_))
      | exact ih0 _ _ _
      | exact LeO.none _
      | refine LeO.ite ?_ ?_
      | refine LeO.bind ?_ (fun _ => ?_)
theorem bloom_Hash.mono : ∀ a0 a1 k, LeO (bloom_Hash.f k a0 a1) (bloom_Hash.f (k + 1) a0 a1) := by
  intro a0 a1 k
  have ih0 := bloom_Hash.mono_l k
  unfold bloom_Hash.f
  repeat' first
      | (with_reducible exact ih0 _ _ _)
      | (with_reducible exact LeO.refl _)
      | (with_reducible exact LeO.none _)
      | (with_reducible refine LeO.ite ?_ ?_)
      | (with_reducible refine LeO.bind ?_ (fun _ => ?_))
      | exact ih0 _ _ _
      | exact LeO.none _
      | refine LeO.ite ?_ ?_
      | refine LeO.bind ?_ (fun _ => ?_)
set_option maxHeartbeats 8000000 in
set_option maxRecDepth 100000 in
theorem bloom_Hash.calls (k : Nat) (a0 : ByteArray) (a1 : Int) (r : Int) (w : World) (h : bloom_Hash.f k a0 a1 = some r) :
    Calls Try.prog 13 #[.string a0, .int .u32 a1] w fun e w' => e = .returned (.int .u32 r) ∧ Drawn0 w w' := by
  have H : (bloom_Hash.l0 k a0 (Go.bits .xor .u32 a1 (((((a0.size : Int)) % 4294967296) * 3332679571) % 4294967296)) 0) = some r := h
  clear h
  have H' := Aside0.mk H
  clear H
  go_enter Try.func13, Try.ntmps13
  go_wp2
  repeat (go_quiet (fail); try go_wp2)
  go_loopg [5, 6] k (fun kq v5 v6 w' => ∃ (x5_1 : Int) (x6_1 : Int), v5 = .int .u32 x5_1 ∧ v6 = .int .i64 x6_1 ∧ Aside0 (bloom_Hash.l0 kq a0 x5_1 x6_1 = some r) ∧ Aside0 (kq ≤ k) ∧ Drawn0 w w')
  case atStart => exact ⟨(Go.bits .xor .u32 a1 (((((a0.size : Int)) % 4294967296) * 3332679571) % 4294967296)), (0), (by first | rfl | (simp; done) | (simp [*]; done)), (by first | rfl | (simp; done) | (simp [*]; done)), H', ⟨Nat.le_refl _⟩, by repeat (first | exact Drawn0.refl _ | apply Drawn0.step)⟩
  case round =>
    clear H'
    try clear c1
    try clear p2
    obtain ⟨x5_1, x6_1, rfl, rfl, HA, HK1, ⟨m1, rfl⟩⟩ := hrel
    cases gk with
    | zero => exact absurd HA.out (by simp [bloom_Hash.l0])
    | succ k1 =>
      have H := HA.out
      clear HA
      simp only [bloom_Hash.l0] at H
      by_cases c3 : (wrap64 (x6_1 + 4)) ≤ (a0.size : Int)
      · rw [if_pos c3] at H
        have c3b0 : decide ((wrap64 (x6_1 + 4)) ≤ (a0.size : Int)) = true := decide_eq_true c3
        clear c3
        by_cases c4 : 0 ≤ x6_1
        · rw [if_pos c4] at H
          have c4b0 : decide (0 ≤ x6_1) = true := decide_eq_true c4
          clear c4
          by_cases c5 : x6_1 < (a0.size : Int)
          · rw [if_pos c5] at H
            have c5b0 : decide (x6_1 < (a0.size : Int)) = true := decide_eq_true c5
            clear c5
            obtain ⟨ji7, hji7⟩ : ∃ j_ : Int, (wrap64 (x6_1 + 1)) = j_ := ⟨_, rfl⟩
            replace H : (if 0 ≤ (ji7) then (if (ji7) < (a0.size : Int) then (if 0 ≤ (wrap64 (x6_1 + 2)) then (if (wrap64 (x6_1 + 2)) < (a0.size : Int) then (if 0 ≤ (wrap64 (x6_1 + 3)) then (if (wrap64 (x6_1 + 3)) < (a0.size : Int) then (bloom_Hash.l0 k1 a0 (Go.bits .xor .u32 ((((x5_1 + (Go.bits .or .u32 (Go.bits .or .u32 (Go.bits .or .u32 ((bt a0 x6_1) % 4294967296) ((((bt a0 (ji7)) % 4294967296) * 256) % 4294967296)) ((((bt a0 (wrap64 (x6_1 + 2))) % 4294967296) * 65536) % 4294967296)) ((((bt a0 (wrap64 (x6_1 + 3))) % 4294967296) * 16777216) % 4294967296))) % 4294967296) * 3332679571) % 4294967296) (((((x5_1 + (Go.bits .or .u32 (Go.bits .or .u32 (Go.bits .or .u32 ((bt a0 x6_1) % 4294967296) ((((bt a0 (ji7)) % 4294967296) * 256) % 4294967296)) ((((bt a0 (wrap64 (x6_1 + 2))) % 4294967296) * 65536) % 4294967296)) ((((bt a0 (wrap64 (x6_1 + 3))) % 4294967296) * 16777216) % 4294967296))) % 4294967296) * 3332679571) % 4294967296) / 65536)) (wrap64 (x6_1 + 4))) else (none)) else (none)) else (none)) else (none)) else (none)) else (none)) = some r := by first | (rw [hji7] at H; exact H) | (simp only [hji7] at H ⊢; exact H)
            have hji7w : (IntKind.i64.wrap (x6_1 + 1)) = ji7 := (i64_w _).trans hji7
            by_cases c8 : 0 ≤ (ji7)
            · rw [if_pos c8] at H
              have c8b0 : decide (0 ≤ (ji7)) = true := decide_eq_true c8
              clear c8
              by_cases c9 : (ji7) < (a0.size : Int)
              · rw [if_pos c9] at H
                have c9b0 : decide ((ji7) < (a0.size : Int)) = true := decide_eq_true c9
                clear c9
                obtain ⟨ji11, hji11⟩ : ∃ j_ : Int, (wrap64 (x6_1 + 2)) = j_ := ⟨_, rfl⟩
                replace H : (if 0 ≤ (ji11) then (if (ji11) < (a0.size : Int) then (if 0 ≤ (wrap64 (x6_1 + 3)) then (if (wrap64 (x6_1 + 3)) < (a0.size : Int) then (bloom_Hash.l0 k1 a0 (Go.bits .xor .u32 ((((x5_1 + (Go.bits .or .u32 (Go.bits .or .u32 (Go.bits .or .u32 ((bt a0 x6_1) % 4294967296) ((((bt a0 (ji7)) % 4294967296) * 256) % 4294967296)) ((((bt a0 (ji11)) % 4294967296) * 65536) % 4294967296)) ((((bt a0 (wrap64 (x6_1 + 3))) % 4294967296) * 16777216) % 4294967296))) % 4294967296) * 3332679571) % 4294967296) (((((x5_1 + (Go.bits .or .u32 (Go.bits .or .u32 (Go.bits .or .u32 ((bt a0 x6_1) % 4294967296) ((((bt a0 (ji7)) % 4294967296) * 256) % 4294967296)) ((((bt a0 (ji11)) % 4294967296) * 65536) % 4294967296)) ((((bt a0 (wrap64 (x6_1 + 3))) % 4294967296) * 16777216) % 4294967296))) % 4294967296) * 3332679571) % 4294967296) / 65536)) (wrap64 (x6_1 + 4))) else (none)) else (none)) else (none)) else (none)) = some r := by first | (rw [hji11] at H; exact H) | (simp only [hji11] at H ⊢; exact H)
                have hji11w : (IntKind.i64.wrap (x6_1 + 2)) = ji11 := (i64_w _).trans hji11
                by_cases c12 : 0 ≤ (ji11)
                · rw [if_pos c12] at H
                  have c12b0 : decide (0 ≤ (ji11)) = true := decide_eq_true c12
                  clear c12
                  by_cases c13 : (ji11) < (a0.size : Int)
                  · rw [if_pos c13] at H
                    have c13b0 : decide ((ji11) < (a0.size : Int)) = true := decide_eq_true c13
                    clear c13
                    obtain ⟨ji15, hji15⟩ : ∃ j_ : Int, (wrap64 (x6_1 + 3)) = j_ := ⟨_, rfl⟩
                    replace H : (if 0 ≤ (ji15) then (if (ji15) < (a0.size : Int) then (bloom_Hash.l0 k1 a0 (Go.bits .xor .u32 ((((x5_1 + (Go.bits .or .u32 (Go.bits .or .u32 (Go.bits .or .u32 ((bt a0 x6_1) % 4294967296) ((((bt a0 (ji7)) % 4294967296) * 256) % 4294967296)) ((((bt a0 (ji11)) % 4294967296) * 65536) % 4294967296)) ((((bt a0 (ji15)) % 4294967296) * 16777216) % 4294967296))) % 4294967296) * 3332679571) % 4294967296) (((((x5_1 + (Go.bits .or .u32 (Go.bits .or .u32 (Go.bits .or .u32 ((bt a0 x6_1) % 4294967296) ((((bt a0 (ji7)) % 4294967296) * 256) % 4294967296)) ((((bt a0 (ji11)) % 4294967296) * 65536) % 4294967296)) ((((bt a0 (ji15)) % 4294967296) * 16777216) % 4294967296))) % 4294967296) * 3332679571) % 4294967296) / 65536)) (wrap64 (x6_1 + 4))) else (none)) else (none)) = some r := by first | (rw [hji15] at H; exact H) | (simp only [hji15] at H ⊢; exact H)
                    have hji15w : (IntKind.i64.wrap (x6_1 + 3)) = ji15 := (i64_w _).trans hji15
                    by_cases c16 : 0 ≤ (ji15)
                    · rw [if_pos c16] at H
                      have c16b0 : decide (0 ≤ (ji15)) = true := decide_eq_true c16
                      clear c16
                      by_cases c17 : (ji15) < (a0.size : Int)
                      · rw [if_pos c17] at H
                        have c17b0 : decide ((ji15) < (a0.size : Int)) = true := decide_eq_true c17
                        clear c17
                        have H' := Aside0.mk H
                        clear H
                        have p6 : 0 ≤ (x6_1 : Int) := of_decide_eq_true (by first | (with_reducible assumption) | assumption)
                        have q6 : x6_1 < (a0.size : Int) := of_decide_eq_true (by first | (with_reducible assumption) | assumption)
                        have hx6 := bt_at a0 x6_1
                        replace p6 := eq_true p6
                        replace q6 := eq_true q6
                        have p10 : 0 ≤ ((ji7) : Int) := of_decide_eq_true (by first | (with_reducible assumption) | assumption)
                        have q10 : (ji7) < (a0.size : Int) := of_decide_eq_true (by first | (with_reducible assumption) | assumption)
                        have hx10 := bt_at a0 (ji7)
                        replace p10 := eq_true p10
                        replace q10 := eq_true q10
                        have p14 : 0 ≤ ((ji11) : Int) := of_decide_eq_true (by first | (with_reducible assumption) | assumption)
                        have q14 : (ji11) < (a0.size : Int) := of_decide_eq_true (by first | (with_reducible assumption) | assumption)
                        have hx14 := bt_at a0 (ji11)
                        replace p14 := eq_true p14
                        replace q14 := eq_true q14
                        have p18 : 0 ≤ ((ji15) : Int) := of_decide_eq_true (by first | (with_reducible assumption) | assumption)
                        have q18 : (ji15) < (a0.size : Int) := of_decide_eq_true (by first | (with_reducible assumption) | assumption)
                        have hx18 := bt_at a0 (ji15)
                        replace p18 := eq_true p18
                        replace q18 := eq_true q18
                        go_wp2
                        repeat (go_quiet (fail); try go_wp2)
                        go_roundg k1
                        case measure => have := HK1.out; omega
                        case rel => exact ⟨(Go.bits .xor .u32 ((((x5_1 + (Go.bits .or .u32 (Go.bits .or .u32 (Go.bits .or .u32 ((bt a0 x6_1) % 4294967296) ((((bt a0 (ji7)) % 4294967296) * 256) % 4294967296)) ((((bt a0 (ji11)) % 4294967296) * 65536) % 4294967296)) ((((bt a0 (ji15)) % 4294967296) * 16777216) % 4294967296))) % 4294967296) * 3332679571) % 4294967296) (((((x5_1 + (Go.bits .or .u32 (Go.bits .or .u32 (Go.bits .or .u32 ((bt a0 x6_1) % 4294967296) ((((bt a0 (ji7)) % 4294967296) * 256) % 4294967296)) ((((bt a0 (ji11)) % 4294967296) * 65536) % 4294967296)) ((((bt a0 (ji15)) % 4294967296) * 16777216) % 4294967296))) % 4294967296) * 3332679571) % 4294967296) / 65536)), (wrap64 (x6_1 + 4)), (by first | rfl | (simp; done) | (simp only [← hji7, ← hji11, ← hji15] <;> (first | rfl | simp)) | (simp [*]; done)), (by first | rfl | (simp; done) | (simp [*]; done)), H', ⟨by have := HK1.out; omega⟩, by repeat (first | exact Drawn0.refl _ | apply Drawn0.step)⟩
                      · rw [if_neg c17] at H
                        exact absurd H (by simp)
                    · rw [if_neg c16] at H
                      exact absurd H (by simp)
                  · rw [if_neg c13] at H
                    exact absurd H (by simp)
                · rw [if_neg c12] at H
                  exact absurd H (by simp)
              · rw [if_neg c9] at H
                exact absurd H (by simp)
            · rw [if_neg c8] at H
              exact absurd H (by simp)
          · rw [if_neg c5] at H
            exact absurd H (by simp)
        · rw [if_neg c4] at H
          exact absurd H (by simp)
      · rw [if_neg c3] at H
        have c3b0 : decide ((wrap64 (x6_1 + 4)) ≤ (a0.size : Int)) = false := decide_eq_false c3
        clear c3
        by_cases c19 : (wrap64 ((a0.size : Int) - x6_1)) = 3
        · rw [if_pos c19] at H
          have c19b0 : ((wrap64 ((a0.size : Int) - x6_1)) == 3) = true := beq_iff_eq.mpr c19
          have c19b1 : ((wrap64 ((a0.size : Int) - x6_1)) != 3) = false := bne_eq_false_iff_eq.mpr c19
          clear c19
          obtain ⟨ji20, hji20⟩ : ∃ j_ : Int, (wrap64 (x6_1 + 2)) = j_ := ⟨_, rfl⟩
          replace H : (if 0 ≤ (ji20) then (if (ji20) < (a0.size : Int) then (if 0 ≤ (wrap64 (x6_1 + 1)) then (if (wrap64 (x6_1 + 1)) < (a0.size : Int) then (if 0 ≤ x6_1 then (if x6_1 < (a0.size : Int) then (some (Go.bits .xor .u32 ((((((((x5_1 + ((((bt a0 (ji20)) % 4294967296) * 65536) % 4294967296)) % 4294967296) + ((((bt a0 (wrap64 (x6_1 + 1))) % 4294967296) * 256) % 4294967296)) % 4294967296) + ((bt a0 x6_1) % 4294967296)) % 4294967296) * 3332679571) % 4294967296) (((((((((x5_1 + ((((bt a0 (ji20)) % 4294967296) * 65536) % 4294967296)) % 4294967296) + ((((bt a0 (wrap64 (x6_1 + 1))) % 4294967296) * 256) % 4294967296)) % 4294967296) + ((bt a0 x6_1) % 4294967296)) % 4294967296) * 3332679571) % 4294967296) / 16777216))) else (none)) else (none)) else (none)) else (none)) else (none)) else (none)) = some r := by first | (rw [hji20] at H; exact H) | (simp only [hji20] at H ⊢; exact H)
          have hji20w : (IntKind.i64.wrap (x6_1 + 2)) = ji20 := (i64_w _).trans hji20
          by_cases c21 : 0 ≤ (ji20)
          · rw [if_pos c21] at H
            have c21b0 : decide (0 ≤ (ji20)) = true := decide_eq_true c21
            clear c21
            by_cases c22 : (ji20) < (a0.size : Int)
            · rw [if_pos c22] at H
              have c22b0 : decide ((ji20) < (a0.size : Int)) = true := decide_eq_true c22
              clear c22
              obtain ⟨ji24, hji24⟩ : ∃ j_ : Int, (wrap64 (x6_1 + 1)) = j_ := ⟨_, rfl⟩
              replace H : (if 0 ≤ (ji24) then (if (ji24) < (a0.size : Int) then (if 0 ≤ x6_1 then (if x6_1 < (a0.size : Int) then (some (Go.bits .xor .u32 ((((((((x5_1 + ((((bt a0 (ji20)) % 4294967296) * 65536) % 4294967296)) % 4294967296) + ((((bt a0 (ji24)) % 4294967296) * 256) % 4294967296)) % 4294967296) + ((bt a0 x6_1) % 4294967296)) % 4294967296) * 3332679571) % 4294967296) (((((((((x5_1 + ((((bt a0 (ji20)) % 4294967296) * 65536) % 4294967296)) % 4294967296) + ((((bt a0 (ji24)) % 4294967296) * 256) % 4294967296)) % 4294967296) + ((bt a0 x6_1) % 4294967296)) % 4294967296) * 3332679571) % 4294967296) / 16777216))) else (none)) else (none)) else (none)) else (none)) = some r := by first | (rw [hji24] at H; exact H) | (simp only [hji24] at H ⊢; exact H)
              have hji24w : (IntKind.i64.wrap (x6_1 + 1)) = ji24 := (i64_w _).trans hji24
              by_cases c25 : 0 ≤ (ji24)
              · rw [if_pos c25] at H
                have c25b0 : decide (0 ≤ (ji24)) = true := decide_eq_true c25
                clear c25
                by_cases c26 : (ji24) < (a0.size : Int)
                · rw [if_pos c26] at H
                  have c26b0 : decide ((ji24) < (a0.size : Int)) = true := decide_eq_true c26
                  clear c26
                  by_cases c28 : 0 ≤ x6_1
                  · rw [if_pos c28] at H
                    have c28b0 : decide (0 ≤ x6_1) = true := decide_eq_true c28
                    clear c28
                    by_cases c29 : x6_1 < (a0.size : Int)
                    · rw [if_pos c29] at H
                      have c29b0 : decide (x6_1 < (a0.size : Int)) = true := decide_eq_true c29
                      clear c29
                      obtain rfl := Option.some.inj H
                      have p23 : 0 ≤ ((ji20) : Int) := of_decide_eq_true (by first | (with_reducible assumption) | assumption)
                      have q23 : (ji20) < (a0.size : Int) := of_decide_eq_true (by first | (with_reducible assumption) | assumption)
                      have hx23 := bt_at a0 (ji20)
                      replace p23 := eq_true p23
                      replace q23 := eq_true q23
                      have p27 : 0 ≤ ((ji24) : Int) := of_decide_eq_true (by first | (with_reducible assumption) | assumption)
                      have q27 : (ji24) < (a0.size : Int) := of_decide_eq_true (by first | (with_reducible assumption) | assumption)
                      have hx27 := bt_at a0 (ji24)
                      replace p27 := eq_true p27
                      replace q27 := eq_true q27
                      have p30 : 0 ≤ (x6_1 : Int) := of_decide_eq_true (by first | (with_reducible assumption) | assumption)
                      have q30 : x6_1 < (a0.size : Int) := of_decide_eq_true (by first | (with_reducible assumption) | assumption)
                      have hx30 := bt_at a0 x6_1
                      replace p30 := eq_true p30
                      replace q30 := eq_true q30
                      go_wp2
                      repeat (go_quiet (fail); try go_wp2)
                      go_ret
                      exact ⟨by first | rfl | (simp; done) | (simp only [← hji20, ← hji24] <;> (first | rfl | simp)) | (simp [*]; done), by repeat (first | exact Drawn0.refl _ | apply Drawn0.step)⟩
                    · rw [if_neg c29] at H
                      exact absurd H (by simp)
                  · rw [if_neg c28] at H
                    exact absurd H (by simp)
                · rw [if_neg c26] at H
                  exact absurd H (by simp)
              · rw [if_neg c25] at H
                exact absurd H (by simp)
            · rw [if_neg c22] at H
              exact absurd H (by simp)
          · rw [if_neg c21] at H
            exact absurd H (by simp)
        · rw [if_neg c19] at H
          have c19b0 : ((wrap64 ((a0.size : Int) - x6_1)) == 3) = false := beq_eq_false_iff_ne.mpr c19
          have c19b1 : ((wrap64 ((a0.size : Int) - x6_1)) != 3) = true := bne_iff_ne.mpr c19
          by_cases c31 : (wrap64 ((a0.size : Int) - x6_1)) = 2
          · rw [if_pos c31] at H
            have c31b0 : ((wrap64 ((a0.size : Int) - x6_1)) == 2) = true := beq_iff_eq.mpr c31
            have c31b1 : ((wrap64 ((a0.size : Int) - x6_1)) != 2) = false := bne_eq_false_iff_eq.mpr c31
            clear c31
            obtain ⟨ji32, hji32⟩ : ∃ j_ : Int, (wrap64 (x6_1 + 1)) = j_ := ⟨_, rfl⟩
            replace H : (if 0 ≤ (ji32) then (if (ji32) < (a0.size : Int) then (if 0 ≤ x6_1 then (if x6_1 < (a0.size : Int) then (some (Go.bits .xor .u32 ((((((x5_1 + ((((bt a0 (ji32)) % 4294967296) * 256) % 4294967296)) % 4294967296) + ((bt a0 x6_1) % 4294967296)) % 4294967296) * 3332679571) % 4294967296) (((((((x5_1 + ((((bt a0 (ji32)) % 4294967296) * 256) % 4294967296)) % 4294967296) + ((bt a0 x6_1) % 4294967296)) % 4294967296) * 3332679571) % 4294967296) / 16777216))) else (none)) else (none)) else (none)) else (none)) = some r := by first | (rw [hji32] at H; exact H) | (simp only [hji32] at H ⊢; exact H)
            have hji32w : (IntKind.i64.wrap (x6_1 + 1)) = ji32 := (i64_w _).trans hji32
            by_cases c33 : 0 ≤ (ji32)
            · rw [if_pos c33] at H
              have c33b0 : decide (0 ≤ (ji32)) = true := decide_eq_true c33
              clear c33
              by_cases c34 : (ji32) < (a0.size : Int)
              · rw [if_pos c34] at H
                have c34b0 : decide ((ji32) < (a0.size : Int)) = true := decide_eq_true c34
                clear c34
                by_cases c36 : 0 ≤ x6_1
                · rw [if_pos c36] at H
                  have c36b0 : decide (0 ≤ x6_1) = true := decide_eq_true c36
                  clear c36
                  by_cases c37 : x6_1 < (a0.size : Int)
                  · rw [if_pos c37] at H
                    have c37b0 : decide (x6_1 < (a0.size : Int)) = true := decide_eq_true c37
                    clear c37
                    obtain rfl := Option.some.inj H
                    have p35 : 0 ≤ ((ji32) : Int) := of_decide_eq_true (by first | (with_reducible assumption) | assumption)
                    have q35 : (ji32) < (a0.size : Int) := of_decide_eq_true (by first | (with_reducible assumption) | assumption)
                    have hx35 := bt_at a0 (ji32)
                    replace p35 := eq_true p35
                    replace q35 := eq_true q35
                    have p38 : 0 ≤ (x6_1 : Int) := of_decide_eq_true (by first | (with_reducible assumption) | assumption)
                    have q38 : x6_1 < (a0.size : Int) := of_decide_eq_true (by first | (with_reducible assumption) | assumption)
                    have hx38 := bt_at a0 x6_1
                    replace p38 := eq_true p38
                    replace q38 := eq_true q38
                    go_wp2
                    repeat (go_quiet (fail); try go_wp2)
                    go_ret
                    exact ⟨by first | rfl | (simp; done) | (simp only [← hji32] <;> (first | rfl | simp)) | (simp [*]; done), by repeat (first | exact Drawn0.refl _ | apply Drawn0.step)⟩
                  · rw [if_neg c37] at H
                    exact absurd H (by simp)
                · rw [if_neg c36] at H
                  exact absurd H (by simp)
              · rw [if_neg c34] at H
                exact absurd H (by simp)
            · rw [if_neg c33] at H
              exact absurd H (by simp)
          · rw [if_neg c31] at H
            have c31b0 : ((wrap64 ((a0.size : Int) - x6_1)) == 2) = false := beq_eq_false_iff_ne.mpr c31
            have c31b1 : ((wrap64 ((a0.size : Int) - x6_1)) != 2) = true := bne_iff_ne.mpr c31
            by_cases c39 : (wrap64 ((a0.size : Int) - x6_1)) = 1
            · rw [if_pos c39] at H
              have c39b0 : ((wrap64 ((a0.size : Int) - x6_1)) == 1) = true := beq_iff_eq.mpr c39
              have c39b1 : ((wrap64 ((a0.size : Int) - x6_1)) != 1) = false := bne_eq_false_iff_eq.mpr c39
              clear c39
              by_cases c40 : 0 ≤ x6_1
              · rw [if_pos c40] at H
                have c40b0 : decide (0 ≤ x6_1) = true := decide_eq_true c40
                clear c40
                by_cases c41 : x6_1 < (a0.size : Int)
                · rw [if_pos c41] at H
                  have c41b0 : decide (x6_1 < (a0.size : Int)) = true := decide_eq_true c41
                  clear c41
                  obtain rfl := Option.some.inj H
                  have p42 : 0 ≤ (x6_1 : Int) := of_decide_eq_true (by first | (with_reducible assumption) | assumption)
                  have q42 : x6_1 < (a0.size : Int) := of_decide_eq_true (by first | (with_reducible assumption) | assumption)
                  have hx42 := bt_at a0 x6_1
                  replace p42 := eq_true p42
                  replace q42 := eq_true q42
                  go_wp2
                  repeat (go_quiet (fail); try go_wp2)
                  go_ret
                  exact ⟨by first | rfl | (simp; done) | (simp [*]; done), by repeat (first | exact Drawn0.refl _ | apply Drawn0.step)⟩
                · rw [if_neg c41] at H
                  exact absurd H (by simp)
              · rw [if_neg c40] at H
                exact absurd H (by simp)
            · rw [if_neg c39] at H
              have c39b0 : ((wrap64 ((a0.size : Int) - x6_1)) == 1) = false := beq_eq_false_iff_ne.mpr c39
              have c39b1 : ((wrap64 ((a0.size : Int) - x6_1)) != 1) = true := bne_iff_ne.mpr c39
              obtain rfl := Option.some.inj H
              go_wp2
              repeat (go_quiet (fail); try go_wp2)
              go_ret
              exact ⟨by first | rfl | (simp; done) | (simp [*]; done), by repeat (first | exact Drawn0.refl _ | apply Drawn0.step)⟩

/-! ### moraineref12_number: function 25 -/
def moraineref12_number.l0 : Nat → ByteArray → Int → Int → Int → Option (Int)
  | 0, _, _, _, _ => none
  | k + 1, x0, x1, x7, x8 => if x8 ≥ 0 then (if 0 ≤ (wrap64 (x1 + x8)) then (if (wrap64 (x1 + x8)) < (x0.size : Int) then (moraineref12_number.l0 k x0 x1 (Go.bits .or .u32 ((x7 * 256) % 4294967296) ((bt x0 (wrap64 (x1 + x8))) % 4294967296)) (wrap64 (x8 - 1))) else (none)) else (none)) else (some x7)
def moraineref12_number.f (k : Nat) (a0 : ByteArray) (a1 : Int) (a2 : Int) : Option (Int) := moraineref12_number.l0 k a0 a1 0 (wrap64 (a2 - 1))
theorem moraineref12_number.mono_l : ∀ k, (∀ y0 y1 y2 y3, LeO (moraineref12_number.l0 k y0 y1 y2 y3) (moraineref12_number.l0 (k + 1) y0 y1 y2 y3))
  | 0 => fun _ _ _ _ r h => by simp [moraineref12_number.l0] at h
  | k + 1 => by
    have ih0 := moraineref12_number.mono_l k
    · intro y0 y1 y2 y3
      unfold moraineref12_number.l0
      repeat' first
      | (with_reducible exact ih0 _ _ _ _)
      | (with_reducible exact LeO.refl _)
      | (with_reducible exact LeO.none _)
      | (with_reducible refine LeO.ite ?_ ?_)
      | (with_reducible refine LeO.bind ?_ (fun _ => ?_))
      | exact ih0 _ _ _ _
      | exact LeO.none _
      | refine LeO.ite ?_ ?_
      | refine LeO.bind ?_ (fun _ => ?_)
theorem moraineref12_number.mono : ∀ a0 a1 a2 k, LeO (moraineref12_number.f k a0 a1 a2) (moraineref12_number.f (k + 1) a0 a1 a2) := by
  intro a0 a1 a2 k
  have ih0 := moraineref12_number.mono_l k
  unfold moraineref12_number.f
  repeat' first
      | (with_reducible exact ih0 _ _ _ _)
      | (with_reducible exact LeO.refl _)
      | (with_reducible exact LeO.none _)
      | (with_reducible refine LeO.ite ?_ ?_)
      | (with_reducible refine LeO.bind ?_ (fun _ => ?_))
      | exact ih0 _ _ _ _
      | exact LeO.none _
      | refine LeO.ite ?_ ?_
      | refine LeO.bind ?_ (fun _ => ?_)
set_option maxHeartbeats 8000000 in
set_option maxRecDepth 100000 in
theorem moraineref12_number.calls (k : Nat) (a0 : ByteArray) (a1 : Int) (a2 : Int) (r : Int) (w : World) (h : moraineref12_number.f k a0 a1 a2 = some r) :
    Calls Try.prog 25 #[.string a0, .int .i64 a1, .int .i64 a2] w fun e w' => e = .returned (.int .u32 r) ∧ Drawn0 w w' := by
  have H : (moraineref12_number.l0 k a0 a1 0 (wrap64 (a2 - 1))) = some r := h
  clear h
  have H' := Aside0.mk H
  clear H
  go_enter Try.func25, Try.ntmps25
  go_wp2
  go_loopg [7, 8] k (fun kq v7 v8 w' => ∃ (x7_1 : Int) (x8_1 : Int), v7 = .int .u32 x7_1 ∧ v8 = .int .i64 x8_1 ∧ Aside0 (moraineref12_number.l0 kq a0 a1 x7_1 x8_1 = some r) ∧ Aside0 (kq ≤ k) ∧ Drawn0 w w')
  case atStart => exact ⟨(0), (wrap64 (a2 - 1)), (by first | rfl | (simp; done) | (simp [*]; done)), (by first | rfl | (simp; done) | (simp [*]; done)), H', ⟨Nat.le_refl _⟩, by repeat (first | exact Drawn0.refl _ | apply Drawn0.step)⟩
  case round =>
    clear H'
    try clear c2
    try clear p2
    obtain ⟨x7_1, x8_1, rfl, rfl, HA, HK1, ⟨m1, rfl⟩⟩ := hrel
    cases gk with
    | zero => exact absurd HA.out (by simp [moraineref12_number.l0])
    | succ k1 =>
      have H := HA.out
      clear HA
      simp only [moraineref12_number.l0] at H
      by_cases c4 : x8_1 ≥ 0
      · rw [if_pos c4] at H
        have c4b0 : decide (0 ≤ x8_1) = true := decide_eq_true c4
        clear c4
        obtain ⟨ji5, hji5⟩ : ∃ j_ : Int, (wrap64 (a1 + x8_1)) = j_ := ⟨_, rfl⟩
        replace H : (if 0 ≤ (ji5) then (if (ji5) < (a0.size : Int) then (moraineref12_number.l0 k1 a0 a1 (Go.bits .or .u32 ((x7_1 * 256) % 4294967296) ((bt a0 (ji5)) % 4294967296)) (wrap64 (x8_1 - 1))) else (none)) else (none)) = some r := by first | (rw [hji5] at H; exact H) | (simp only [hji5] at H ⊢; exact H)
        have hji5w : (IntKind.i64.wrap (a1 + x8_1)) = ji5 := (i64_w _).trans hji5
        by_cases c6 : 0 ≤ (ji5)
        · rw [if_pos c6] at H
          have c6b0 : decide (0 ≤ (ji5)) = true := decide_eq_true c6
          clear c6
          by_cases c7 : (ji5) < (a0.size : Int)
          · rw [if_pos c7] at H
            have c7b0 : decide ((ji5) < (a0.size : Int)) = true := decide_eq_true c7
            clear c7
            have H' := Aside0.mk H
            clear H
            have p8 : 0 ≤ ((ji5) : Int) := of_decide_eq_true (by first | (with_reducible assumption) | assumption)
            have q8 : (ji5) < (a0.size : Int) := of_decide_eq_true (by first | (with_reducible assumption) | assumption)
            have hx8 := bt_at a0 (ji5)
            replace p8 := eq_true p8
            replace q8 := eq_true q8
            go_wp2
            go_roundg k1
            case measure => have := HK1.out; omega
            case rel => exact ⟨(Go.bits .or .u32 ((x7_1 * 256) % 4294967296) ((bt a0 (ji5)) % 4294967296)), (wrap64 (x8_1 - 1)), (by first | rfl | (simp; done) | (simp only [← hji5] <;> (first | rfl | simp)) | (simp [*]; done)), (by first | rfl | (simp; done) | (simp [*]; done)), H', ⟨by have := HK1.out; omega⟩, by repeat (first | exact Drawn0.refl _ | apply Drawn0.step)⟩
          · rw [if_neg c7] at H
            exact absurd H (by simp)
        · rw [if_neg c6] at H
          exact absurd H (by simp)
      · rw [if_neg c4] at H
        have c4b0 : decide (0 ≤ x8_1) = false := decide_eq_false c4
        clear c4
        obtain rfl := Option.some.inj H
        go_wp2
        go_ret
        exact ⟨by first | rfl | (simp; done) | (simp [*]; done), by repeat (first | exact Drawn0.refl _ | apply Drawn0.step)⟩

/-! ### moraineref12_Hash: function 14 -/
def moraineref12_Hash.l0 : Nat → ByteArray → Int → Int → Int → Option (Int)
  | 0, _, _, _, _ => none
  | k + 1, x0, x5, x6, x7 => if (wrap64 ((x0.size : Int) - x7)) ≥ 4 then ((moraineref12_number.f k x0 x7 4).bind fun t101 => (moraineref12_Hash.l0 k x0 x5 (Go.bits .xor .u32 ((((x6 + t101) % 4294967296) * x5) % 4294967296) (((((x6 + t101) % 4294967296) * x5) % 4294967296) / 65536)) (wrap64 (x7 + 4)))) else (if x7 < (x0.size : Int) then ((moraineref12_number.f k x0 x7 (wrap64 ((x0.size : Int) - x7))).bind fun t102 => (some (Go.bits .xor .u32 ((((x6 + t102) % 4294967296) * x5) % 4294967296) (((((x6 + t102) % 4294967296) * x5) % 4294967296) / 16777216)))) else (some x6))
def moraineref12_Hash.f (k : Nat) (a0 : ByteArray) (a1 : Int) : Option (Int) := moraineref12_Hash.l0 k a0 3332679571 (Go.bits .xor .u32 a1 (((((a0.size : Int)) % 4294967296) * 3332679571) % 4294967296)) 0
theorem moraineref12_Hash.mono_l : ∀ k, (∀ y0 y1 y2 y3, LeO (moraineref12_Hash.l0 k y0 y1 y2 y3) (moraineref12_Hash.l0 (k + 1) y0 y1 y2 y3))
  | 0 => fun _ _ _ _ r h => by simp [moraineref12_Hash.l0] at h
  | k + 1 => by
    have ih0 := moraineref12_Hash.mono_l k
    · intro y0 y1 y2 y3
      unfold moraineref12_Hash.l0
      repeat' first
      | (with_reducible exact ih0 _ _ _ _)
      | (with_reducible exact moraineref12_number.mono _ _ _ _)
      | (with_reducible exact LeO.refl _)
      | (with_reducible exact LeO.none _)
      | (with_reducible refine LeO.ite ?_ ?_)
      | (with_reducible refine LeO.bind ?_ (fun _ => ?_))
      | exact ih0 _ _ _ _
      | exact moraineref12_number.mono _ _ _ _
      | exact LeO.none _
      | refine LeO.ite ?_ ?_
      | refine LeO.bind ?_ (fun _ => ?_)
theorem moraineref12_Hash.mono : ∀ a0 a1 k, LeO (moraineref12_Hash.f k a0 a1) (moraineref12_Hash.f (k + 1) a0 a1) := by
  intro a0 a1 k
  have ih0 := moraineref12_Hash.mono_l k
  unfold moraineref12_Hash.f
  repeat' first
      | (with_reducible exact ih0 _ _ _ _)
      | (with_reducible exact moraineref12_number.mono _ _ _ _)
      | (with_reducible exact LeO.refl _)
      | (with_reducible exact LeO.none _)
      | (with_reducible refine LeO.ite ?_ ?_)
      | (with_reducible refine LeO.bind ?_ (fun _ => ?_))
      | exact ih0 _ _ _ _
      | exact moraineref12_number.mono _ _ _ _
      | exact LeO.none _
      | refine LeO.ite ?_ ?_
      | refine LeO.bind ?_ (fun _ => ?_)
set_option maxHeartbeats 8000000 in
set_option maxRecDepth 100000 in
theorem moraineref12_Hash.calls (k : Nat) (a0 : ByteArray) (a1 : Int) (r : Int) (w : World) (h : moraineref12_Hash.f k a0 a1 = some r) :
    Calls Try.prog 14 #[.string a0, .int .u32 a1] w fun e w' => e = .returned (.int .u32 r) ∧ Drawn0 w w' := by
  have H : (moraineref12_Hash.l0 k a0 3332679571 (Go.bits .xor .u32 a1 (((((a0.size : Int)) % 4294967296) * 3332679571) % 4294967296)) 0) = some r := h
  clear h
  have H' := Aside0.mk H
  clear H
  go_enter Try.func14, Try.ntmps14
  go_wp2
  go_loopg [6, 7] k (fun kq v6 v7 w' => ∃ (x6_1 : Int) (x7_1 : Int), v6 = .int .u32 x6_1 ∧ v7 = .int .i64 x7_1 ∧ Aside0 (moraineref12_Hash.l0 kq a0 3332679571 x6_1 x7_1 = some r) ∧ Aside0 (kq ≤ k) ∧ Drawn0 w w')
  case atStart => exact ⟨(Go.bits .xor .u32 a1 (((((a0.size : Int)) % 4294967296) * 3332679571) % 4294967296)), (0), (by first | rfl | (simp; done) | (simp [*]; done)), (by first | rfl | (simp; done) | (simp [*]; done)), H', ⟨Nat.le_refl _⟩, by repeat (first | exact Drawn0.refl _ | apply Drawn0.step)⟩
  case round =>
    clear H'
    try clear c1
    try clear p2
    obtain ⟨x6_1, x7_1, rfl, rfl, HA, HK1, ⟨m1, rfl⟩⟩ := hrel
    cases gk with
    | zero => exact absurd HA.out (by simp [moraineref12_Hash.l0])
    | succ k1 =>
      have H := HA.out
      clear HA
      simp only [moraineref12_Hash.l0] at H
      by_cases c3 : (wrap64 ((a0.size : Int) - x7_1)) ≥ 4
      · rw [if_pos c3] at H
        have c3b0 : decide (4 ≤ (wrap64 ((a0.size : Int) - x7_1))) = true := decide_eq_true c3
        clear c3
        replace H := Option.bind_eq_some_iff.mp H
        obtain ⟨t101, A40, H⟩ := H
        replace H : (moraineref12_Hash.l0 k1 a0 3332679571 (Go.bits .xor .u32 ((((x6_1 + t101) % 4294967296) * 3332679571) % 4294967296) (((((x6_1 + t101) % 4294967296) * 3332679571) % 4294967296) / 65536)) (wrap64 (x7_1 + 4))) = some r := H
        have A4 := Aside0.mk A40
        clear A40
        have H' := Aside0.mk H
        clear H
        go_wp2_with (first | ((with_reducible refine gate_callee (f := 25) rfl ?_); refine goesL_ (some 23) rfl rfl Try.func25 (by kernel_rfl) rfl #[.string a0, .int .i64 x7_1, .int .i64 4] rfl (by (try simp only [List.map_toArray, List.map_cons, List.map_nil]); first | done | rfl | (simp only [List.length_drop, List.length_take]; rfl)) ?_; (with_reducible refine (moraineref12_number.calls k1 a0 x7_1 4 t101 _ A4.out).mono ?_); rintro e w' ⟨rfl, ⟨nd, rfl⟩⟩; refine ⟨_, rfl, ?_⟩))
        go_roundg k1
        case measure => have := HK1.out; omega
        case rel => exact ⟨(Go.bits .xor .u32 ((((x6_1 + t101) % 4294967296) * 3332679571) % 4294967296) (((((x6_1 + t101) % 4294967296) * 3332679571) % 4294967296) / 65536)), (wrap64 (x7_1 + 4)), (by first | rfl | (simp; done) | (simp [*]; done)), (by first | rfl | (simp; done) | (simp [*]; done)), H', ⟨by have := HK1.out; omega⟩, by repeat (first | exact Drawn0.refl _ | apply Drawn0.step)⟩
      · rw [if_neg c3] at H
        have c3b0 : decide (4 ≤ (wrap64 ((a0.size : Int) - x7_1))) = false := decide_eq_false c3
        clear c3
        by_cases c5 : x7_1 < (a0.size : Int)
        · rw [if_pos c5] at H
          have c5b0 : decide (x7_1 < (a0.size : Int)) = true := decide_eq_true c5
          clear c5
          replace H := Option.bind_eq_some_iff.mp H
          obtain ⟨t102, A60, H⟩ := H
          replace H : (some (Go.bits .xor .u32 ((((x6_1 + t102) % 4294967296) * 3332679571) % 4294967296) (((((x6_1 + t102) % 4294967296) * 3332679571) % 4294967296) / 16777216))) = some r := H
          have A6 := Aside0.mk A60
          clear A60
          obtain rfl := Option.some.inj H
          go_wp2_with (first | ((with_reducible refine gate_callee (f := 25) rfl ?_); refine goesL_ (some 44) rfl rfl Try.func25 (by kernel_rfl) rfl #[.string a0, .int .i64 x7_1, .int .i64 (wrap64 ((a0.size : Int) - x7_1))] rfl (by (try simp only [List.map_toArray, List.map_cons, List.map_nil]); first | done | rfl | (simp only [List.length_drop, List.length_take]; rfl)) ?_; (with_reducible refine (moraineref12_number.calls k1 a0 x7_1 (wrap64 ((a0.size : Int) - x7_1)) t102 _ A6.out).mono ?_); rintro e w' ⟨rfl, ⟨nd, rfl⟩⟩; refine ⟨_, rfl, ?_⟩))
          go_ret
          exact ⟨by first | rfl | (simp; done) | (simp [*]; done), by repeat (first | exact Drawn0.refl _ | apply Drawn0.step)⟩
        · rw [if_neg c5] at H
          have c5b0 : decide (x7_1 < (a0.size : Int)) = false := decide_eq_false c5
          clear c5
          obtain rfl := Option.some.inj H
          go_wp2
          go_ret
          exact ⟨by first | rfl | (simp; done) | (simp [*]; done), by repeat (first | exact Drawn0.refl _ | apply Drawn0.step)⟩

/-! ### morainelaw12_BloomHashes: function 4 -/
def morainelaw12_BloomHashes.f (k : Nat) (a0 : ByteArray) (a1 : Int) : Option (Bool) := (morainelaw12_names.f).bind fun t103 => (if t103 = true then ((bloom_Hash.f k a0 a1).bind fun t104 => ((moraineref12_Hash.f k a0 a1).bind fun t105 => (if t104 = t105 then ((bloom_Hash.f k (⟨#[]⟩ : ByteArray) 3164544308).bind fun t106 => (some (t106 == 3164544308))) else (some false)))) else (some false))
theorem morainelaw12_BloomHashes.mono : ∀ a0 a1 k, LeO (morainelaw12_BloomHashes.f k a0 a1) (morainelaw12_BloomHashes.f (k + 1) a0 a1) := by
  intro a0 a1 k
  unfold morainelaw12_BloomHashes.f
  repeat' first
      | (with_reducible exact bloom_Hash.mono _ _ _)
      | (with_reducible exact moraineref12_Hash.mono _ _ _)
      | (with_reducible exact LeO.refl _)
      | (with_reducible exact LeO.none _)
      | (with_reducible refine LeO.ite ?_ ?_)
      | (with_reducible refine LeO.bind ?_ (fun _ => ?_))
      | exact bloom_Hash.mono _ _ _
      | exact moraineref12_Hash.mono _ _ _
      | exact LeO.none _
      | refine LeO.ite ?_ ?_
      | refine LeO.bind ?_ (fun _ => ?_)
set_option maxHeartbeats 8000000 in
set_option maxRecDepth 100000 in
theorem morainelaw12_BloomHashes.calls (k : Nat) (a0 : ByteArray) (a1 : Int) (r : Bool) (w : World) (h : morainelaw12_BloomHashes.f k a0 a1 = some r) :
    Calls Try.prog 4 #[.string a0, .int .u32 a1] w fun e w' => e = .returned (.bool r) ∧ Drawn0 w w' := by
  have H : ((morainelaw12_names.f).bind fun t103 => (if t103 = true then ((bloom_Hash.f k a0 a1).bind fun t104 => ((moraineref12_Hash.f k a0 a1).bind fun t105 => (if t104 = t105 then ((bloom_Hash.f k (⟨#[]⟩ : ByteArray) 3164544308).bind fun t106 => (some (t106 == 3164544308))) else (some false)))) else (some false))) = some r := h
  clear h
  replace H := Option.bind_eq_some_iff.mp H
  obtain ⟨t103, A30, H⟩ := H
  replace H : (if t103 = true then ((bloom_Hash.f k a0 a1).bind fun t104 => ((moraineref12_Hash.f k a0 a1).bind fun t105 => (if t104 = t105 then ((bloom_Hash.f k (⟨#[]⟩ : ByteArray) 3164544308).bind fun t106 => (some (t106 == 3164544308))) else (some false)))) else (some false)) = some r := H
  have A3 := Aside0.mk A30
  clear A30
  by_cases c4 : t103 = true
  · subst c4
    have H1 : ((bloom_Hash.f k a0 a1).bind fun t104 => ((moraineref12_Hash.f k a0 a1).bind fun t105 => (if t104 = t105 then ((bloom_Hash.f k (⟨#[]⟩ : ByteArray) 3164544308).bind fun t106 => (some (t106 == 3164544308))) else (some false)))) = some r := by rw [if_pos rfl] at H; exact H
    clear H
    have H := H1
    clear H1
    replace H := Option.bind_eq_some_iff.mp H
    obtain ⟨t104, A50, H⟩ := H
    replace H : ((moraineref12_Hash.f k a0 a1).bind fun t105 => (if t104 = t105 then ((bloom_Hash.f k (⟨#[]⟩ : ByteArray) 3164544308).bind fun t106 => (some (t106 == 3164544308))) else (some false))) = some r := H
    have A5 := Aside0.mk A50
    clear A50
    replace H := Option.bind_eq_some_iff.mp H
    obtain ⟨t105, A60, H⟩ := H
    replace H : (if t104 = t105 then ((bloom_Hash.f k (⟨#[]⟩ : ByteArray) 3164544308).bind fun t106 => (some (t106 == 3164544308))) else (some false)) = some r := H
    have A6 := Aside0.mk A60
    clear A60
    by_cases c7 : t104 = t105
    · rw [if_pos c7] at H
      have c7b0 : (t104 == t105) = true := beq_iff_eq.mpr c7
      have c7b1 : (t104 != t105) = false := bne_eq_false_iff_eq.mpr c7
      clear c7
      replace H := Option.bind_eq_some_iff.mp H
      obtain ⟨t106, A80, H⟩ := H
      replace H : (some (t106 == 3164544308)) = some r := H
      have A8 := Aside0.mk A80
      clear A80
      obtain rfl := Option.some.inj H
      go_enter Try.func4, Try.ntmps4
      go_wp2_with (first | ((with_reducible refine gate_callee (f := 12) rfl ?_); refine goesL_ (some 5) rfl rfl Try.func12 (by kernel_rfl) rfl #[] rfl (by (try simp only [List.map_toArray, List.map_cons, List.map_nil]); first | done | rfl | (simp only [List.length_drop, List.length_take]; rfl)) ?_; (with_reducible refine (morainelaw12_names.calls  true _ A3.out).mono ?_); rintro e w' ⟨rfl, ⟨nd, rfl⟩⟩; refine ⟨_, rfl, ?_⟩) | (go_at_call 13; (with_reducible refine (bloom_Hash.calls k a0 a1 t104 _ A5.out).mono ?_); rintro e w' ⟨rfl, ⟨nd, rfl⟩⟩) | (go_at_call 14; (with_reducible refine (moraineref12_Hash.calls k a0 a1 t105 _ A6.out).mono ?_); rintro e w' ⟨rfl, ⟨nd, rfl⟩⟩) | (go_at_call 13; (with_reducible refine (bloom_Hash.calls k (⟨#[]⟩ : ByteArray) 3164544308 t106 _ A8.out).mono ?_); rintro e w' ⟨rfl, ⟨nd, rfl⟩⟩))
      go_ret
      exact ⟨by first | rfl | (simp; done) | (simp [*]; done), by repeat (first | exact Drawn0.refl _ | apply Drawn0.step)⟩
    · rw [if_neg c7] at H
      have c7b0 : (t104 == t105) = false := beq_eq_false_iff_ne.mpr c7
      have c7b1 : (t104 != t105) = true := bne_iff_ne.mpr c7
      obtain rfl := Option.some.inj H
      go_enter Try.func4, Try.ntmps4
      go_wp2_with (first | ((with_reducible refine gate_callee (f := 12) rfl ?_); refine goesL_ (some 5) rfl rfl Try.func12 (by kernel_rfl) rfl #[] rfl (by (try simp only [List.map_toArray, List.map_cons, List.map_nil]); first | done | rfl | (simp only [List.length_drop, List.length_take]; rfl)) ?_; (with_reducible refine (morainelaw12_names.calls  true _ A3.out).mono ?_); rintro e w' ⟨rfl, ⟨nd, rfl⟩⟩; refine ⟨_, rfl, ?_⟩) | (go_at_call 13; (with_reducible refine (bloom_Hash.calls k a0 a1 t104 _ A5.out).mono ?_); rintro e w' ⟨rfl, ⟨nd, rfl⟩⟩) | (go_at_call 14; (with_reducible refine (moraineref12_Hash.calls k a0 a1 t105 _ A6.out).mono ?_); rintro e w' ⟨rfl, ⟨nd, rfl⟩⟩))
      go_ret
      exact ⟨by first | rfl | (simp; done) | (simp [*]; done), by repeat (first | exact Drawn0.refl _ | apply Drawn0.step)⟩
  · replace c4 := Bool.eq_false_iff.mpr c4
    subst c4
    have H1 : (some false) = some r := by rw [if_neg (show ¬ (false = true) by decide)] at H; exact H
    clear H
    have H := H1
    clear H1
    obtain rfl := Option.some.inj H
    go_enter Try.func4, Try.ntmps4
    go_wp2_with (first | ((with_reducible refine gate_callee (f := 12) rfl ?_); refine goesL_ (some 5) rfl rfl Try.func12 (by kernel_rfl) rfl #[] rfl (by (try simp only [List.map_toArray, List.map_cons, List.map_nil]); first | done | rfl | (simp only [List.length_drop, List.length_take]; rfl)) ?_; (with_reducible refine (morainelaw12_names.calls  false _ A3.out).mono ?_); rintro e w' ⟨rfl, ⟨nd, rfl⟩⟩; refine ⟨_, rfl, ?_⟩))
    go_ret
    exact ⟨by first | rfl | (simp; done) | (simp [*]; done), by repeat (first | exact Drawn0.refl _ | apply Drawn0.step)⟩

/-- THE ONE PURE STATEMENT of morainelaw12_BloomHashes: yours. -/
def morainelaw12_BloomHashes.Pure : Prop := ∀ (a0 : ByteArray) (a1 : Int), a0.size ≤ 140737488351232 → (Lit.int .u32 a1).wf = true → ∃ k, morainelaw12_BloomHashes.f k a0 a1 = some true
theorem morainelaw12_BloomHashes.walk (P : morainelaw12_BloomHashes.Pure) (a0 : ByteArray) (a1 : Int) (w : World) (w0 : a0.size ≤ 140737488351232) (w1 : (Lit.int .u32 a1).wf = true) :
    Calls Try.prog 4 #[.string a0, .int .u32 a1] w fun e w' => e = .returned (.bool true) ∧ Below w.heap.size w w' := by
  obtain ⟨k, h⟩ := P a0 a1 w0 w1
  refine (morainelaw12_BloomHashes.calls k a0 a1 true w h).mono ?_
  rintro e w' ⟨rfl, hd⟩
  exact ⟨rfl, hd.below⟩

end Go.Proofs.Yticbfcfpchongaa.PBloomHashes
