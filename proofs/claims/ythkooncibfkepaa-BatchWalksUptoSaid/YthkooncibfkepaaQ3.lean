/- Contracts of functions and plain laws, several texts of the session put together by its program. -/
import Derived.Test.YthkooncibfkepaaQ0
import Derived.Test.YthkooncibfkepaaQ1
import Derived.Test.YthkooncibfkepaaQ2
import Derived.Test.YthkooncibfkepaaProg
import Derived.Below
import Derived.Deep.Draws
import Derived.Deep.AppendLies
import Derived.Maps.AppendAt
import Derived.OwnWalk
import Derived.Laws.BytesArg
import Derived.Laws.MakeOwn
import Derived.Laws.OwnMore
import Derived.Deep.OwnRows
import Derived.Tactics
import Derived.Lib.ConvBytes
import Derived.Laws.Slices
import Derived.WalkKit
import Derived.KernelRfl
import Derived.RowKit3
import Derived.Deep.LoopGhost
import Derived.Deep.QuietTactic
import Derived.BigQuiet
import Derived.WideLaws
import Derived.Deep.DeepCutAuto
import Derived.Deep.CutBlock
import Derived.Deep.RegionHeld3
import Derived.Laws.Rows
import Derived.Lib.AppendStr
import Derived.ArgAppend
import Derived.Laws.IdiomCopy
import Derived.OrdersHeld
import Derived.Laws.BitsLemmas
import Derived.RowKit
import Derived.Test.YthkooncibfkepaaWWords
import Derived.Test.YthkooncibfkepaaWLast
import Derived.Test.YthkooncibfkepaaWTab
import Derived.Test.YthkooncibfkepaaWFour
import Derived.Test.YthkooncibfkepaaWQPut
import Derived.Test.YthkooncibfkepaaWApart
import Derived.Test.YthkooncibfkepaaWArr
import Derived.Test.YthkooncibfkepaaWZeros
import Derived.Test.YthkooncibfkepaaWFoot
import Derived.Test.YthkooncibfkepaaWKept
import Derived.Test.YthkooncibfkepaaWShare
import Derived.Test.YthkooncibfkepaaWN
import Derived.Test.YthkooncibfkepaaWFootNe
import Derived.Test.YthkooncibfkepaaWAt
import Derived.Test.YthkooncibfkepaaWEqStruct
import Derived.Test.YthkooncibfkepaaWRepsOne
import Derived.Test.YthkooncibfkepaaWInv
import Derived.Test.YthkooncibfkepaaWInvWords
import Derived.Test.YthkooncibfkepaaWGuard
import Derived.Test.YthkooncibfkepaaWNEv
import Derived.Test.YthkooncibfkepaaWMore
import Derived.Lib.QuoteBits
import Derived.Test.YthkooncibfkepaaRows
import Derived.Deep.Slices
import Derived.Deep.Fields
import Derived.ChangeSame
import Derived.Deep.Strs
import Derived.Lib.SmallJoins

/- Printed by the session's program over the kit's print, out of the translation: functions as plain Lean functions, and the proofs that the calls come to them. -/
namespace Go.Proofs.Ythkooncibfkepaa.G
open Go.RowKit Go.Proofs.YthkooncibfkepaaW.PrintWords Go.Proofs.YthkooncibfkepaaW.PrintLast Go.Proofs.YthkooncibfkepaaW.PrintMore
attribute [local go_sem] max2_int min2_int max_two min_two max_three min_three max_four min_four   -- for this text's walks alone
set_option linter.unusedVariables false
set_option linter.unusedSimpArgs false

/-! ### moraineref04_Decode: function 34 -/
def moraineref04_Decode.f (k : Nat) (l0 : List Int) : Option (Int × (List (S65)) × Int) := if (l0.length : Int) > 1048576 then (some (0, ([] : List (S65)), 41)) else ((moraineref04_Walked.f k l0).bind fun bt250 => (if bt250.2.2 < 12 then (some (0, ([] : List (S65)), 41)) else (if bt250.2.2 = (l0.length : Int) then ((moraineref04_number.f k l0 8 4).bind fun t255 => (if (wrap64 (t255)) = (bt250.2.1.length : Int) then (if (bt250.2.1.length : Int) > 4096 then (some (0, ([] : List (S65)), 41)) else ((moraineref04_Fit.f bt250.1 (bt250.2.1.length : Int)).bind fun t256 => (if t256 = true then (some (bt250.1, bt250.2.1, 0)) else (some (0, ([] : List (S65)), 41))))) else (some (0, ([] : List (S65)), 41)))) else (some (0, ([] : List (S65)), 41)))))
theorem moraineref04_Decode.mono : ∀ a0 k, LeO (moraineref04_Decode.f k a0) (moraineref04_Decode.f (k + 1) a0) := by
  intro a0 k
  unfold moraineref04_Decode.f
  repeat' first
      | (with_reducible exact moraineref04_Walked.mono _ _)
      | (with_reducible exact moraineref04_number.mono _ _ _ _)
      | (with_reducible exact LeO.refl _)
      | (with_reducible exact LeO.none _)
      | (with_reducible refine LeO.ite ?_ ?_)
      | (with_reducible refine LeO.bind ?_ (fun _ => ?_))
      | exact moraineref04_Walked.mono _ _
      | exact moraineref04_number.mono _ _ _ _
      | exact LeO.none _
      | refine LeO.ite ?_ ?_
      | refine LeO.bind ?_ (fun _ => ?_)
set_option maxHeartbeats 8000000 in
set_option maxRecDepth 100000 in
theorem moraineref04_Decode.calls (k : Nat) (A0 : Option Addr) (c0 : Nat) (l0 : List Int) (r1 : Int) (r2 : List (S65)) (r3 : Int) (w : World) (hr0 : Kd.C (Kd.int .u8) w A0 l0.length l0) (hc0 : l0.length ≤ c0) (h : moraineref04_Decode.f k l0 = some (r1, r2, r3)) :
    Calls Try.prog 34 #[.slice A0 l0.length c0] w fun e w' => ∃ v1_ : Value, e = .returned (.tuple #[.int .u64 r1, v1_, .int .i64 r3]) ∧ Kd.R k65 65 w' w.heap.size (fun _ => True) v1_ r2 ∧ Below w.heap.size w w' := by
  have HR0 := Aside0.mk hr0
  have HC0 := Aside0.mk hc0
  clear hr0 hc0
  have HB := Aside0.mk (Below.refl w.heap.size w)
  have H : (if (l0.length : Int) > 1048576 then (some (0, ([] : List (S65)), 41)) else ((moraineref04_Walked.f k l0).bind fun bt250 => (if bt250.2.2 < 12 then (some (0, ([] : List (S65)), 41)) else (if bt250.2.2 = (l0.length : Int) then ((moraineref04_number.f k l0 8 4).bind fun t255 => (if (wrap64 (t255)) = (bt250.2.1.length : Int) then (if (bt250.2.1.length : Int) > 4096 then (some (0, ([] : List (S65)), 41)) else ((moraineref04_Fit.f bt250.1 (bt250.2.1.length : Int)).bind fun t256 => (if t256 = true then (some (bt250.1, bt250.2.1, 0)) else (some (0, ([] : List (S65)), 41))))) else (some (0, ([] : List (S65)), 41)))) else (some (0, ([] : List (S65)), 41)))))) = some (r1, r2, r3) := h
  clear h
  by_cases c2 : (l0.length : Int) > 1048576
  · rw [if_pos c2] at H
    have c2b0 : decide (1048576 < (l0.length : Int)) = true := decide_eq_true c2
    have c2b1 : decide (1048576 < l0.length) = true := decide_eq_true (by omega)
    clear c2
    simp only [Option.some.injEq, Prod.mk.injEq] at H
    obtain ⟨rfl, rfl, rfl⟩ := H
    go_enter Try.func34, Try.ntmps34
    go_wp2
    go_ret3
    exact ⟨_, by first | rfl | (simp [errW_none, errW_some] <;> rfl) | (simp [*, errW_none, errW_some] <;> rfl), by first | exact Kd.R_nil _ _ _ _ _ | exact Kd.N_nil _ _ _ _ _ | exact Kd.V_nil _ _ _ _ _ | exact Kd.Q_nil _ _ _ _ _ | exact Kd.S_nil _ _ _ _ _, by repeat (first | (with_reducible first | exact HB.out | apply below_alloc | apply pw_below_drewN | apply below_drew1) | exact HB.out)⟩
  · rw [if_neg c2] at H
    have c2b0 : decide (1048576 < (l0.length : Int)) = false := decide_eq_false c2
    have c2b1 : decide (1048576 < l0.length) = false := decide_eq_false (by omega)
    clear c2
    replace H := Option.bind_eq_some_iff.mp H
    obtain ⟨⟨t250, t251, t252⟩, A30, H⟩ := H
    replace H : (if t252 < 12 then (some (0, ([] : List (S65)), 41)) else (if t252 = (l0.length : Int) then ((moraineref04_number.f k l0 8 4).bind fun t255 => (if (wrap64 (t255)) = (t251.length : Int) then (if (t251.length : Int) > 4096 then (some (0, ([] : List (S65)), 41)) else ((moraineref04_Fit.f t250 (t251.length : Int)).bind fun t256 => (if t256 = true then (some (t250, t251, 0)) else (some (0, ([] : List (S65)), 41))))) else (some (0, ([] : List (S65)), 41)))) else (some (0, ([] : List (S65)), 41)))) = some (r1, r2, r3) := H
    have A3 := Aside0.mk A30
    clear A30
    by_cases c4 : t252 < 12
    · rw [if_pos c4] at H
      have c4b0 : decide (t252 < 12) = true := decide_eq_true c4
      clear c4
      simp only [Option.some.injEq, Prod.mk.injEq] at H
      obtain ⟨rfl, rfl, rfl⟩ := H
      go_enter Try.func34, Try.ntmps34
      go_wp2_with (first | ((with_reducible refine gate_callee (f := 40) rfl ?_); refine goesL_ (some 13) rfl rfl Try.func40 (by kernel_rfl) rfl #[.slice A0 l0.length c0] rfl (by (try simp only [List.map_toArray, List.map_cons, List.map_nil]); first | done | rfl | (simp only [List.length_drop, List.length_take]; rfl)) ?_; (with_reducible refine (moraineref04_Walked.calls k _ _ l0 t250 t251 t252 _ ?side1 ?side2 A3.out).mono ?_); (case side1 => repeat (first | exact HR0.out | (with_reducible refine Kd.C_alloc ?_ _) | (with_reducible refine Kd.C_drewN ?_ _) | (with_reducible refine Kd.C_drew ?_))); (case side2 => exact HC0.out); rintro e w5 ⟨v253, rfl, ho0, hb⟩; refine ⟨_, rfl, ?_⟩; have n0_ := Aside0.mk (Kd.R_lower ho0 (below_size (by repeat (first | (with_reducible first | exact HB.out | apply below_alloc | apply pw_below_drewN | apply below_drew1) | exact HB.out)))); have n1_ := Aside0.mk (below_step (by repeat (first | (with_reducible first | exact HB.out | apply below_alloc | apply pw_below_drewN | apply below_drew1) | exact HB.out)) hb); clear HB; have HO254 := n0_; have HB := n1_; clear n0_ n1_; (try clear hb); (try clear hb2); (try clear hk); (try clear hi); (try clear ho0)))
      go_ret3
      exact ⟨_, by first | rfl | (simp [errW_none, errW_some] <;> rfl) | (simp [*, errW_none, errW_some] <;> rfl), by first | exact Kd.R_nil _ _ _ _ _ | exact Kd.N_nil _ _ _ _ _ | exact Kd.V_nil _ _ _ _ _ | exact Kd.Q_nil _ _ _ _ _ | exact Kd.S_nil _ _ _ _ _, by repeat (first | (with_reducible first | exact HB.out | apply below_alloc | apply pw_below_drewN | apply below_drew1) | exact HB.out)⟩
    · rw [if_neg c4] at H
      have c4b0 : decide (t252 < 12) = false := decide_eq_false c4
      clear c4
      by_cases c6 : t252 = (l0.length : Int)
      · rw [if_pos c6] at H
        have c6b0 : (t252 == (l0.length : Int)) = true := beq_iff_eq.mpr c6
        have c6b1 : (t252 != (l0.length : Int)) = false := bne_eq_false_iff_eq.mpr c6
        clear c6
        replace H := Option.bind_eq_some_iff.mp H
        obtain ⟨t255, A70, H⟩ := H
        replace H : (if (wrap64 (t255)) = (t251.length : Int) then (if (t251.length : Int) > 4096 then (some (0, ([] : List (S65)), 41)) else ((moraineref04_Fit.f t250 (t251.length : Int)).bind fun t256 => (if t256 = true then (some (t250, t251, 0)) else (some (0, ([] : List (S65)), 41))))) else (some (0, ([] : List (S65)), 41))) = some (r1, r2, r3) := H
        have A7 := Aside0.mk A70
        clear A70
        by_cases c8 : (wrap64 (t255)) = (t251.length : Int)
        · rw [if_pos c8] at H
          have c8b0 : ((wrap64 (t255)) == (t251.length : Int)) = true := beq_iff_eq.mpr c8
          have c8b1 : ((wrap64 (t255)) != (t251.length : Int)) = false := bne_eq_false_iff_eq.mpr c8
          clear c8
          by_cases c9 : (t251.length : Int) > 4096
          · rw [if_pos c9] at H
            have c9b0 : decide (4096 < (t251.length : Int)) = true := decide_eq_true c9
            have c9b1 : decide (4096 < t251.length) = true := decide_eq_true (by omega)
            clear c9
            simp only [Option.some.injEq, Prod.mk.injEq] at H
            obtain ⟨rfl, rfl, rfl⟩ := H
            go_enter Try.func34, Try.ntmps34
            go_wp2_with (first | ((with_reducible refine gate_callee (f := 40) rfl ?_); refine goesL_ (some 13) rfl rfl Try.func40 (by kernel_rfl) rfl #[.slice A0 l0.length c0] rfl (by (try simp only [List.map_toArray, List.map_cons, List.map_nil]); first | done | rfl | (simp only [List.length_drop, List.length_take]; rfl)) ?_; (with_reducible refine (moraineref04_Walked.calls k _ _ l0 t250 t251 t252 _ ?side1 ?side2 A3.out).mono ?_); (case side1 => repeat (first | exact HR0.out | (with_reducible refine Kd.C_alloc ?_ _) | (with_reducible refine Kd.C_drewN ?_ _) | (with_reducible refine Kd.C_drew ?_))); (case side2 => exact HC0.out); rintro e w10 ⟨v253, rfl, ho0, hb⟩; refine ⟨_, rfl, ?_⟩; have n0_ := Aside0.mk (Kd.R_lower ho0 (below_size (by repeat (first | (with_reducible first | exact HB.out | apply below_alloc | apply pw_below_drewN | apply below_drew1) | exact HB.out)))); have n1_ := Aside0.mk (below_step (by repeat (first | (with_reducible first | exact HB.out | apply below_alloc | apply pw_below_drewN | apply below_drew1) | exact HB.out)) hb); clear HB; have HO254 := n0_; have HB := n1_; clear n0_ n1_; (try clear hb); (try clear hb2); (try clear hk); (try clear hi); (try clear ho0)) | (go_at_call 64; (with_reducible refine (moraineref04_number.calls k _ _ l0 8 4 t255 _ ?side1 ?side2 A7.out).mono ?_); (case side1 => repeat (first | exact (Kd.C_below HR0.out HB.out) | (with_reducible refine Kd.C_alloc ?_ _) | (with_reducible refine Kd.C_drewN ?_ _) | (with_reducible refine Kd.C_drew ?_))); (case side2 => exact HC0.out); rintro e w' ⟨rfl, ⟨nd, rfl⟩⟩; obtain ⟨Ao11, co11, eo11⟩ := Kd.R_slice HO254.out; subst eo11))
            go_ret3
            exact ⟨_, by first | rfl | (simp [errW_none, errW_some] <;> rfl) | (simp [*, errW_none, errW_some] <;> rfl), by first | exact Kd.R_nil _ _ _ _ _ | exact Kd.N_nil _ _ _ _ _ | exact Kd.V_nil _ _ _ _ _ | exact Kd.Q_nil _ _ _ _ _ | exact Kd.S_nil _ _ _ _ _, by repeat (first | (with_reducible first | exact HB.out | apply below_alloc | apply pw_below_drewN | apply below_drew1) | exact HB.out)⟩
          · rw [if_neg c9] at H
            have c9b0 : decide (4096 < (t251.length : Int)) = false := decide_eq_false c9
            have c9b1 : decide (4096 < t251.length) = false := decide_eq_false (by omega)
            clear c9
            replace H := Option.bind_eq_some_iff.mp H
            obtain ⟨t256, A120, H⟩ := H
            replace H : (if t256 = true then (some (t250, t251, 0)) else (some (0, ([] : List (S65)), 41))) = some (r1, r2, r3) := H
            have A12 := Aside0.mk A120
            clear A120
            by_cases c13 : t256 = true
            · subst c13
              have H1 : (some (t250, t251, 0)) = some (r1, r2, r3) := by rw [if_pos rfl] at H; exact H
              clear H
              have H := H1
              clear H1
              simp only [Option.some.injEq, Prod.mk.injEq] at H
              obtain ⟨rfl, rfl, rfl⟩ := H
              go_enter Try.func34, Try.ntmps34
              go_wp2_with (first | ((with_reducible refine gate_callee (f := 40) rfl ?_); refine goesL_ (some 13) rfl rfl Try.func40 (by kernel_rfl) rfl #[.slice A0 l0.length c0] rfl (by (try simp only [List.map_toArray, List.map_cons, List.map_nil]); first | done | rfl | (simp only [List.length_drop, List.length_take]; rfl)) ?_; (with_reducible refine (moraineref04_Walked.calls k _ _ l0 t250 t251 t252 _ ?side1 ?side2 A3.out).mono ?_); (case side1 => repeat (first | exact HR0.out | (with_reducible refine Kd.C_alloc ?_ _) | (with_reducible refine Kd.C_drewN ?_ _) | (with_reducible refine Kd.C_drew ?_))); (case side2 => exact HC0.out); rintro e w14 ⟨v253, rfl, ho0, hb⟩; refine ⟨_, rfl, ?_⟩; have n0_ := Aside0.mk (Kd.R_lower ho0 (below_size (by repeat (first | (with_reducible first | exact HB.out | apply below_alloc | apply pw_below_drewN | apply below_drew1) | exact HB.out)))); have n1_ := Aside0.mk (below_step (by repeat (first | (with_reducible first | exact HB.out | apply below_alloc | apply pw_below_drewN | apply below_drew1) | exact HB.out)) hb); clear HB; have HO254 := n0_; have HB := n1_; clear n0_ n1_; (try clear hb); (try clear hb2); (try clear hk); (try clear hi); (try clear ho0)) | (go_at_call 64; (with_reducible refine (moraineref04_number.calls k _ _ l0 8 4 t255 _ ?side1 ?side2 A7.out).mono ?_); (case side1 => repeat (first | exact (Kd.C_below HR0.out HB.out) | (with_reducible refine Kd.C_alloc ?_ _) | (with_reducible refine Kd.C_drewN ?_ _) | (with_reducible refine Kd.C_drew ?_))); (case side2 => exact HC0.out); rintro e w' ⟨rfl, ⟨nd, rfl⟩⟩; obtain ⟨Ao15, co15, eo15⟩ := Kd.R_slice HO254.out; subst eo15) | (go_at_call 57; (with_reducible refine (moraineref04_Fit.calls t250 (t251.length : Int) true _ A12.out).mono ?_); rintro e w' ⟨rfl, ⟨nd, rfl⟩⟩))
              go_ret3
              exact ⟨_, by first | rfl | (simp [errW_none, errW_some] <;> rfl) | (simp [*, errW_none, errW_some] <;> rfl), by (with_reducible repeat (first | apply Kd.R_alloc | apply Kd.R_drewN | apply Kd.R_drew)); exact HO254.out, by repeat (first | (with_reducible first | exact HB.out | apply below_alloc | apply pw_below_drewN | apply below_drew1) | exact HB.out)⟩
            · replace c13 := Bool.eq_false_iff.mpr c13
              subst c13
              have H1 : (some (0, ([] : List (S65)), 41)) = some (r1, r2, r3) := by rw [if_neg (show ¬ (false = true) by decide)] at H; exact H
              clear H
              have H := H1
              clear H1
              simp only [Option.some.injEq, Prod.mk.injEq] at H
              obtain ⟨rfl, rfl, rfl⟩ := H
              go_enter Try.func34, Try.ntmps34
              go_wp2_with (first | ((with_reducible refine gate_callee (f := 40) rfl ?_); refine goesL_ (some 13) rfl rfl Try.func40 (by kernel_rfl) rfl #[.slice A0 l0.length c0] rfl (by (try simp only [List.map_toArray, List.map_cons, List.map_nil]); first | done | rfl | (simp only [List.length_drop, List.length_take]; rfl)) ?_; (with_reducible refine (moraineref04_Walked.calls k _ _ l0 t250 t251 t252 _ ?side1 ?side2 A3.out).mono ?_); (case side1 => repeat (first | exact HR0.out | (with_reducible refine Kd.C_alloc ?_ _) | (with_reducible refine Kd.C_drewN ?_ _) | (with_reducible refine Kd.C_drew ?_))); (case side2 => exact HC0.out); rintro e w16 ⟨v253, rfl, ho0, hb⟩; refine ⟨_, rfl, ?_⟩; have n0_ := Aside0.mk (Kd.R_lower ho0 (below_size (by repeat (first | (with_reducible first | exact HB.out | apply below_alloc | apply pw_below_drewN | apply below_drew1) | exact HB.out)))); have n1_ := Aside0.mk (below_step (by repeat (first | (with_reducible first | exact HB.out | apply below_alloc | apply pw_below_drewN | apply below_drew1) | exact HB.out)) hb); clear HB; have HO254 := n0_; have HB := n1_; clear n0_ n1_; (try clear hb); (try clear hb2); (try clear hk); (try clear hi); (try clear ho0)) | (go_at_call 64; (with_reducible refine (moraineref04_number.calls k _ _ l0 8 4 t255 _ ?side1 ?side2 A7.out).mono ?_); (case side1 => repeat (first | exact (Kd.C_below HR0.out HB.out) | (with_reducible refine Kd.C_alloc ?_ _) | (with_reducible refine Kd.C_drewN ?_ _) | (with_reducible refine Kd.C_drew ?_))); (case side2 => exact HC0.out); rintro e w' ⟨rfl, ⟨nd, rfl⟩⟩; obtain ⟨Ao17, co17, eo17⟩ := Kd.R_slice HO254.out; subst eo17) | (go_at_call 57; (with_reducible refine (moraineref04_Fit.calls t250 (t251.length : Int) false _ A12.out).mono ?_); rintro e w' ⟨rfl, ⟨nd, rfl⟩⟩))
              go_ret3
              exact ⟨_, by first | rfl | (simp [errW_none, errW_some] <;> rfl) | (simp [*, errW_none, errW_some] <;> rfl), by first | exact Kd.R_nil _ _ _ _ _ | exact Kd.N_nil _ _ _ _ _ | exact Kd.V_nil _ _ _ _ _ | exact Kd.Q_nil _ _ _ _ _ | exact Kd.S_nil _ _ _ _ _, by repeat (first | (with_reducible first | exact HB.out | apply below_alloc | apply pw_below_drewN | apply below_drew1) | exact HB.out)⟩
        · rw [if_neg c8] at H
          have c8b0 : ((wrap64 (t255)) == (t251.length : Int)) = false := beq_eq_false_iff_ne.mpr c8
          have c8b1 : ((wrap64 (t255)) != (t251.length : Int)) = true := bne_iff_ne.mpr c8
          simp only [Option.some.injEq, Prod.mk.injEq] at H
          obtain ⟨rfl, rfl, rfl⟩ := H
          go_enter Try.func34, Try.ntmps34
          go_wp2_with (first | ((with_reducible refine gate_callee (f := 40) rfl ?_); refine goesL_ (some 13) rfl rfl Try.func40 (by kernel_rfl) rfl #[.slice A0 l0.length c0] rfl (by (try simp only [List.map_toArray, List.map_cons, List.map_nil]); first | done | rfl | (simp only [List.length_drop, List.length_take]; rfl)) ?_; (with_reducible refine (moraineref04_Walked.calls k _ _ l0 t250 t251 t252 _ ?side1 ?side2 A3.out).mono ?_); (case side1 => repeat (first | exact HR0.out | (with_reducible refine Kd.C_alloc ?_ _) | (with_reducible refine Kd.C_drewN ?_ _) | (with_reducible refine Kd.C_drew ?_))); (case side2 => exact HC0.out); rintro e w18 ⟨v253, rfl, ho0, hb⟩; refine ⟨_, rfl, ?_⟩; have n0_ := Aside0.mk (Kd.R_lower ho0 (below_size (by repeat (first | (with_reducible first | exact HB.out | apply below_alloc | apply pw_below_drewN | apply below_drew1) | exact HB.out)))); have n1_ := Aside0.mk (below_step (by repeat (first | (with_reducible first | exact HB.out | apply below_alloc | apply pw_below_drewN | apply below_drew1) | exact HB.out)) hb); clear HB; have HO254 := n0_; have HB := n1_; clear n0_ n1_; (try clear hb); (try clear hb2); (try clear hk); (try clear hi); (try clear ho0)) | (go_at_call 64; (with_reducible refine (moraineref04_number.calls k _ _ l0 8 4 t255 _ ?side1 ?side2 A7.out).mono ?_); (case side1 => repeat (first | exact (Kd.C_below HR0.out HB.out) | (with_reducible refine Kd.C_alloc ?_ _) | (with_reducible refine Kd.C_drewN ?_ _) | (with_reducible refine Kd.C_drew ?_))); (case side2 => exact HC0.out); rintro e w' ⟨rfl, ⟨nd, rfl⟩⟩; obtain ⟨Ao19, co19, eo19⟩ := Kd.R_slice HO254.out; subst eo19))
          go_ret3
          exact ⟨_, by first | rfl | (simp [errW_none, errW_some] <;> rfl) | (simp [*, errW_none, errW_some] <;> rfl), by first | exact Kd.R_nil _ _ _ _ _ | exact Kd.N_nil _ _ _ _ _ | exact Kd.V_nil _ _ _ _ _ | exact Kd.Q_nil _ _ _ _ _ | exact Kd.S_nil _ _ _ _ _, by repeat (first | (with_reducible first | exact HB.out | apply below_alloc | apply pw_below_drewN | apply below_drew1) | exact HB.out)⟩
      · rw [if_neg c6] at H
        have c6b0 : (t252 == (l0.length : Int)) = false := beq_eq_false_iff_ne.mpr c6
        have c6b1 : (t252 != (l0.length : Int)) = true := bne_iff_ne.mpr c6
        simp only [Option.some.injEq, Prod.mk.injEq] at H
        obtain ⟨rfl, rfl, rfl⟩ := H
        go_enter Try.func34, Try.ntmps34
        go_wp2_with (first | ((with_reducible refine gate_callee (f := 40) rfl ?_); refine goesL_ (some 13) rfl rfl Try.func40 (by kernel_rfl) rfl #[.slice A0 l0.length c0] rfl (by (try simp only [List.map_toArray, List.map_cons, List.map_nil]); first | done | rfl | (simp only [List.length_drop, List.length_take]; rfl)) ?_; (with_reducible refine (moraineref04_Walked.calls k _ _ l0 t250 t251 t252 _ ?side1 ?side2 A3.out).mono ?_); (case side1 => repeat (first | exact HR0.out | (with_reducible refine Kd.C_alloc ?_ _) | (with_reducible refine Kd.C_drewN ?_ _) | (with_reducible refine Kd.C_drew ?_))); (case side2 => exact HC0.out); rintro e w20 ⟨v253, rfl, ho0, hb⟩; refine ⟨_, rfl, ?_⟩; have n0_ := Aside0.mk (Kd.R_lower ho0 (below_size (by repeat (first | (with_reducible first | exact HB.out | apply below_alloc | apply pw_below_drewN | apply below_drew1) | exact HB.out)))); have n1_ := Aside0.mk (below_step (by repeat (first | (with_reducible first | exact HB.out | apply below_alloc | apply pw_below_drewN | apply below_drew1) | exact HB.out)) hb); clear HB; have HO254 := n0_; have HB := n1_; clear n0_ n1_; (try clear hb); (try clear hb2); (try clear hk); (try clear hi); (try clear ho0)))
        go_ret3
        exact ⟨_, by first | rfl | (simp [errW_none, errW_some] <;> rfl) | (simp [*, errW_none, errW_some] <;> rfl), by first | exact Kd.R_nil _ _ _ _ _ | exact Kd.N_nil _ _ _ _ _ | exact Kd.V_nil _ _ _ _ _ | exact Kd.Q_nil _ _ _ _ _ | exact Kd.S_nil _ _ _ _ _, by repeat (first | (with_reducible first | exact HB.out | apply below_alloc | apply pw_below_drewN | apply below_drew1) | exact HB.out)⟩

end Go.Proofs.Ythkooncibfkepaa.G

/- Printed by the session's program over the kit's print, out of the translation: functions as plain Lean functions, and the proofs that the calls come to them. -/
namespace Go.Proofs.Ythkooncibfkepaa.G
open Go.RowKit Go.Proofs.YthkooncibfkepaaW.PrintWords Go.Proofs.YthkooncibfkepaaW.PrintLast Go.Proofs.YthkooncibfkepaaW.PrintMore
attribute [local go_sem] max2_int min2_int max_two min_two max_three min_three max_four min_four   -- for this text's walks alone
set_option linter.unusedVariables false
set_option linter.unusedSimpArgs false

/-! ### moraineref04_Renumber: function 43 -/
def moraineref04_Renumber.f (k : Nat) (l0 : List Int) (a1 : Int) : Option (List Int × Int) := (moraineref04_Decode.f k l0).bind fun bt259 => (if bt259.2.2 = 0 then ((moraineref04_Encode.f k a1 bt259.2.1).bind fun bt264 => (some (bt264.1, bt264.2))) else (some (([] : List Int), bt259.2.2)))
theorem moraineref04_Renumber.mono : ∀ a0 a1 k, LeO (moraineref04_Renumber.f k a0 a1) (moraineref04_Renumber.f (k + 1) a0 a1) := by
  intro a0 a1 k
  unfold moraineref04_Renumber.f
  repeat' first
      | (with_reducible exact moraineref04_Decode.mono _ _)
      | (with_reducible exact moraineref04_Encode.mono _ _ _)
      | (with_reducible exact LeO.refl _)
      | (with_reducible exact LeO.none _)
      | (with_reducible refine LeO.ite ?_ ?_)
      | (with_reducible refine LeO.bind ?_ (fun _ => ?_))
      | exact moraineref04_Decode.mono _ _
      | exact moraineref04_Encode.mono _ _ _
      | exact LeO.none _
      | refine LeO.ite ?_ ?_
      | refine LeO.bind ?_ (fun _ => ?_)
set_option maxHeartbeats 8000000 in
set_option maxRecDepth 100000 in
theorem moraineref04_Renumber.calls (k : Nat) (A0 : Option Addr) (c0 : Nat) (l0 : List Int) (a1 : Int) (r1 : List Int) (r2 : Int) (w : World) (hr0 : Kd.C (Kd.int .u8) w A0 l0.length l0) (hc0 : l0.length ≤ c0) (h : moraineref04_Renumber.f k l0 a1 = some (r1, r2)) :
    Calls Try.prog 43 #[.slice A0 l0.length c0, .int .u64 a1] w fun e w' => ∃ v0_ : Value, e = .returned (.tuple #[v0_, .int .i64 r2]) ∧ Kd.R (Kd.int .u8) 5 w' w.heap.size (fun _ => True) v0_ r1 ∧ Below w.heap.size w w' := by
  have HR0 := Aside0.mk hr0
  have HC0 := Aside0.mk hc0
  clear hr0 hc0
  have HB := Aside0.mk (Below.refl w.heap.size w)
  have H : ((moraineref04_Decode.f k l0).bind fun bt259 => (if bt259.2.2 = 0 then ((moraineref04_Encode.f k a1 bt259.2.1).bind fun bt264 => (some (bt264.1, bt264.2))) else (some (([] : List Int), bt259.2.2)))) = some (r1, r2) := h
  clear h
  replace H := Option.bind_eq_some_iff.mp H
  obtain ⟨⟨t259, t260, t261⟩, A30, H⟩ := H
  replace H : (if t261 = 0 then ((moraineref04_Encode.f k a1 t260).bind fun bt264 => (some (bt264.1, bt264.2))) else (some (([] : List Int), t261))) = some (r1, r2) := H
  have A3 := Aside0.mk A30
  clear A30
  by_cases c4 : t261 = 0
  · rw [if_pos c4] at H
    have c4b0 : (t261 == 0) = true := beq_iff_eq.mpr c4
    have c4b1 : (t261 != 0) = false := bne_eq_false_iff_eq.mpr c4
    clear c4
    replace H := Option.bind_eq_some_iff.mp H
    obtain ⟨⟨t264, t265⟩, A50, H⟩ := H
    replace H : (some (t264, t265)) = some (r1, r2) := H
    have A5 := Aside0.mk A50
    clear A50
    simp only [Option.some.injEq, Prod.mk.injEq] at H
    obtain ⟨rfl, rfl⟩ := H
    go_enter Try.func43, Try.ntmps43
    go_wp2_with (first | ((with_reducible refine gate_callee (f := 34) rfl ?_); refine goesL_ (some 11) rfl rfl Try.func34 (by kernel_rfl) rfl #[.slice A0 l0.length c0] rfl (by (try simp only [List.map_toArray, List.map_cons, List.map_nil]); first | done | rfl | (simp only [List.length_drop, List.length_take]; rfl)) ?_; (with_reducible refine (moraineref04_Decode.calls k _ _ l0 t259 t260 t261 _ ?side1 ?side2 A3.out).mono ?_); (case side1 => repeat (first | exact HR0.out | (with_reducible refine Kd.C_alloc ?_ _) | (with_reducible refine Kd.C_drewN ?_ _) | (with_reducible refine Kd.C_drew ?_))); (case side2 => exact HC0.out); rintro e w6 ⟨v262, rfl, ho0, hb⟩; refine ⟨_, rfl, ?_⟩; have n0_ := Aside0.mk (Kd.R_lower ho0 (below_size (by repeat (first | (with_reducible first | exact HB.out | apply below_alloc | apply pw_below_drewN | apply below_drew1) | exact HB.out)))); have n1_ := Aside0.mk (below_step (by repeat (first | (with_reducible first | exact HB.out | apply below_alloc | apply pw_below_drewN | apply below_drew1) | exact HB.out)) hb); clear HB; have HO263 := n0_; have HB := n1_; clear n0_ n1_; (try clear hb); (try clear hb2); (try clear hk); (try clear hi); (try clear ho0); obtain ⟨Ao7, co7, eo7⟩ := Kd.R_slice HO263.out; subst eo7) | ((with_reducible refine gate_callee (f := 22) rfl ?_); refine goesL_ (some 20) rfl rfl Try.func22 (by kernel_rfl) rfl #[.int .u64 a1, .slice Ao7 t260.length co7] rfl (by (try simp only [List.map_toArray, List.map_cons, List.map_nil]); first | done | rfl | (simp only [List.length_drop, List.length_take]; rfl)) ?_; (with_reducible refine (moraineref04_Encode.calls k a1 _ _ t260 t264 t265 _ ?side1 ?side2 A5.out).mono ?_); (case side1 => repeat (first | exact (Kd.R_reads' HO263.out).2.2 | (with_reducible refine Kd.C_alloc ?_ _) | (with_reducible refine Kd.C_drewN ?_ _) | (with_reducible refine Kd.C_drew ?_))); (case side2 => exact (Kd.R_reads' HO263.out).2.1); rintro e w8 ⟨v266, rfl, ho0, hb⟩; refine ⟨_, rfl, ?_⟩; have n0_ := Aside0.mk (Kd.R_below (by (with_reducible repeat (first | apply Kd.R_alloc | apply Kd.R_drewN | apply Kd.R_drew)); exact HO263.out) hb); have n1_ := Aside0.mk (Kd.R_lower ho0 (below_size (by repeat (first | (with_reducible first | exact HB.out | apply below_alloc | apply pw_below_drewN | apply below_drew1) | exact HB.out)))); have n2_ := Aside0.mk (below_step (by repeat (first | (with_reducible first | exact HB.out | apply below_alloc | apply pw_below_drewN | apply below_drew1) | exact HB.out)) hb); clear HO263; clear HB; have HO263 := n0_; have HO267 := n1_; have HB := n2_; clear n0_ n1_ n2_; (try clear hb); (try clear hb2); (try clear hk); (try clear hi); (try clear ho0)))
    go_ret2
    exact ⟨_, by first | rfl | (simp [errW_none, errW_some] <;> rfl) | (simp [*, errW_none, errW_some] <;> rfl), by (with_reducible repeat (first | apply Kd.R_alloc | apply Kd.R_drewN | apply Kd.R_drew)); exact HO267.out, by repeat (first | (with_reducible first | exact HB.out | apply below_alloc | apply pw_below_drewN | apply below_drew1) | exact HB.out)⟩
  · rw [if_neg c4] at H
    have c4b0 : (t261 == 0) = false := beq_eq_false_iff_ne.mpr c4
    have c4b1 : (t261 != 0) = true := bne_iff_ne.mpr c4
    simp only [Option.some.injEq, Prod.mk.injEq] at H
    obtain ⟨rfl, rfl⟩ := H
    go_enter Try.func43, Try.ntmps43
    go_wp2_with (first | ((with_reducible refine gate_callee (f := 34) rfl ?_); refine goesL_ (some 11) rfl rfl Try.func34 (by kernel_rfl) rfl #[.slice A0 l0.length c0] rfl (by (try simp only [List.map_toArray, List.map_cons, List.map_nil]); first | done | rfl | (simp only [List.length_drop, List.length_take]; rfl)) ?_; (with_reducible refine (moraineref04_Decode.calls k _ _ l0 t259 t260 t261 _ ?side1 ?side2 A3.out).mono ?_); (case side1 => repeat (first | exact HR0.out | (with_reducible refine Kd.C_alloc ?_ _) | (with_reducible refine Kd.C_drewN ?_ _) | (with_reducible refine Kd.C_drew ?_))); (case side2 => exact HC0.out); rintro e w9 ⟨v262, rfl, ho0, hb⟩; refine ⟨_, rfl, ?_⟩; have n0_ := Aside0.mk (Kd.R_lower ho0 (below_size (by repeat (first | (with_reducible first | exact HB.out | apply below_alloc | apply pw_below_drewN | apply below_drew1) | exact HB.out)))); have n1_ := Aside0.mk (below_step (by repeat (first | (with_reducible first | exact HB.out | apply below_alloc | apply pw_below_drewN | apply below_drew1) | exact HB.out)) hb); clear HB; have HO263 := n0_; have HB := n1_; clear n0_ n1_; (try clear hb); (try clear hb2); (try clear hk); (try clear hi); (try clear ho0)))
    go_ret2
    exact ⟨_, by first | rfl | (simp [errW_none, errW_some] <;> rfl) | (simp [*, errW_none, errW_some] <;> rfl), by first | exact Kd.R_nil _ _ _ _ _ | exact Kd.N_nil _ _ _ _ _ | exact Kd.V_nil _ _ _ _ _ | exact Kd.Q_nil _ _ _ _ _ | exact Kd.S_nil _ _ _ _ _, by repeat (first | (with_reducible first | exact HB.out | apply below_alloc | apply pw_below_drewN | apply below_drew1) | exact HB.out)⟩

end Go.Proofs.Ythkooncibfkepaa.G

/- Printed by the session's program over the kit's print, out of the translation: functions as plain Lean functions, and the proofs that the calls come to them. -/
namespace Go.Proofs.Ythkooncibfkepaa.G
open Go.RowKit Go.Proofs.YthkooncibfkepaaW.PrintWords Go.Proofs.YthkooncibfkepaaW.PrintLast Go.Proofs.YthkooncibfkepaaW.PrintMore
attribute [local go_sem] max2_int min2_int max_two min_two max_three min_three max_four min_four   -- for this text's walks alone
set_option linter.unusedVariables false
set_option linter.unusedSimpArgs false

/-! ### moraineref04_Join: function 45 -/
def moraineref04_Join.f (k : Nat) (l0 : List Int) (l1 : List Int) : Option (List Int × Int) := (moraineref04_Decode.f k l0).bind fun bt268 => ((moraineref04_Decode.f k l1).bind fun bt273 => (if bt268.2.2 = 0 then (if bt273.2.2 = 0 then ((some (([] : List (S65)) : List (S65))).bind fun y278 => (if y278.length + bt268.2.1.length < 3518437208883 then ((some (y278 ++ bt268.2.1 : List (S65))).bind fun y281 => (if y281.length + bt273.2.1.length < 3518437208883 then ((moraineref04_Encode.f k bt268.1 (y281 ++ bt273.2.1)).bind fun bt287 => (some (bt287.1, bt287.2))) else (none))) else (none))) else (some (([] : List Int), 41))) else (some (([] : List Int), 41))))
theorem moraineref04_Join.mono : ∀ a0 a1 k, LeO (moraineref04_Join.f k a0 a1) (moraineref04_Join.f (k + 1) a0 a1) := by
  intro a0 a1 k
  unfold moraineref04_Join.f
  repeat' first
      | (with_reducible exact moraineref04_Decode.mono _ _)
      | (with_reducible exact moraineref04_Encode.mono _ _ _)
      | (with_reducible exact LeO.refl _)
      | (with_reducible exact LeO.none _)
      | (with_reducible refine LeO.ite ?_ ?_)
      | (with_reducible refine LeO.bind ?_ (fun _ => ?_))
      | exact moraineref04_Decode.mono _ _
      | exact moraineref04_Encode.mono _ _ _
      | exact LeO.none _
      | refine LeO.ite ?_ ?_
      | refine LeO.bind ?_ (fun _ => ?_)
set_option maxHeartbeats 8000000 in
set_option maxRecDepth 100000 in
theorem moraineref04_Join.calls (k : Nat) (A0 : Option Addr) (c0 : Nat) (l0 : List Int) (A1 : Option Addr) (c1 : Nat) (l1 : List Int) (r1 : List Int) (r2 : Int) (w : World) (hr0 : Kd.C (Kd.int .u8) w A0 l0.length l0) (hc0 : l0.length ≤ c0) (hr1 : Kd.C (Kd.int .u8) w A1 l1.length l1) (hc1 : l1.length ≤ c1) (h : moraineref04_Join.f k l0 l1 = some (r1, r2)) :
    Calls Try.prog 45 #[.slice A0 l0.length c0, .slice A1 l1.length c1] w fun e w' => ∃ v0_ : Value, e = .returned (.tuple #[v0_, .int .i64 r2]) ∧ Kd.R (Kd.int .u8) 5 w' w.heap.size (fun _ => True) v0_ r1 ∧ Below w.heap.size w w' := by
  have HR0 := Aside0.mk hr0
  have HC0 := Aside0.mk hc0
  clear hr0 hc0
  have HR1 := Aside0.mk hr1
  have HC1 := Aside0.mk hc1
  clear hr1 hc1
  have HB := Aside0.mk (Below.refl w.heap.size w)
  have H : ((moraineref04_Decode.f k l0).bind fun bt268 => ((moraineref04_Decode.f k l1).bind fun bt273 => (if bt268.2.2 = 0 then (if bt273.2.2 = 0 then ((some (([] : List (S65)) : List (S65))).bind fun y278 => (if y278.length + bt268.2.1.length < 3518437208883 then ((some (y278 ++ bt268.2.1 : List (S65))).bind fun y281 => (if y281.length + bt273.2.1.length < 3518437208883 then ((moraineref04_Encode.f k bt268.1 (y281 ++ bt273.2.1)).bind fun bt287 => (some (bt287.1, bt287.2))) else (none))) else (none))) else (some (([] : List Int), 41))) else (some (([] : List Int), 41))))) = some (r1, r2) := h
  clear h
  replace H := Option.bind_eq_some_iff.mp H
  obtain ⟨⟨t268, t269, t270⟩, A30, H⟩ := H
  replace H : ((moraineref04_Decode.f k l1).bind fun bt273 => (if t270 = 0 then (if bt273.2.2 = 0 then ((some (([] : List (S65)) : List (S65))).bind fun y278 => (if y278.length + t269.length < 3518437208883 then ((some (y278 ++ t269 : List (S65))).bind fun y281 => (if y281.length + bt273.2.1.length < 3518437208883 then ((moraineref04_Encode.f k t268 (y281 ++ bt273.2.1)).bind fun bt287 => (some (bt287.1, bt287.2))) else (none))) else (none))) else (some (([] : List Int), 41))) else (some (([] : List Int), 41)))) = some (r1, r2) := H
  have A3 := Aside0.mk A30
  clear A30
  replace H := Option.bind_eq_some_iff.mp H
  obtain ⟨⟨t273, t274, t275⟩, A40, H⟩ := H
  replace H : (if t270 = 0 then (if t275 = 0 then ((some (([] : List (S65)) : List (S65))).bind fun y278 => (if y278.length + t269.length < 3518437208883 then ((some (y278 ++ t269 : List (S65))).bind fun y281 => (if y281.length + t274.length < 3518437208883 then ((moraineref04_Encode.f k t268 (y281 ++ t274)).bind fun bt287 => (some (bt287.1, bt287.2))) else (none))) else (none))) else (some (([] : List Int), 41))) else (some (([] : List Int), 41))) = some (r1, r2) := H
  have A4 := Aside0.mk A40
  clear A40
  by_cases c5 : t270 = 0
  · rw [if_pos c5] at H
    have c5b0 : (t270 == 0) = true := beq_iff_eq.mpr c5
    have c5b1 : (t270 != 0) = false := bne_eq_false_iff_eq.mpr c5
    clear c5
    by_cases c6 : t275 = 0
    · rw [if_pos c6] at H
      have c6b0 : (t275 == 0) = true := beq_iff_eq.mpr c6
      have c6b1 : (t275 != 0) = false := bne_eq_false_iff_eq.mpr c6
      clear c6
      obtain ⟨y278, hy278⟩ : ∃ y_ : List (S65), y_ = (([] : List (S65))) := ⟨_, rfl⟩
      replace H : (if y278.length + t269.length < 3518437208883 then ((some (y278 ++ t269 : List (S65))).bind fun y281 => (if y281.length + t274.length < 3518437208883 then ((moraineref04_Encode.f k t268 (y281 ++ t274)).bind fun bt287 => (some (bt287.1, bt287.2))) else (none))) else (none)) = some (r1, r2) := by first | (rw [hy278]; with_reducible exact H) | (have H2_ := (Option.bind_some _ _).symm.trans H; rw [hy278]; with_reducible exact H2_) | (have H2_ := (Option.bind_some _ _).symm.trans H; with_reducible exact H2_) | with_reducible exact H | (rw [hy278]; exact H) | exact H
      have Ny278 := Aside0.mk hy278
      clear hy278
      by_cases c7 : y278.length + t269.length < 3518437208883
      · rw [if_pos c7] at H
        have LMc7 := Aside0.mk c7
        clear c7
        obtain ⟨y281, hy281⟩ : ∃ y_ : List (S65), y_ = (y278 ++ t269) := ⟨_, rfl⟩
        replace H : (if y281.length + t274.length < 3518437208883 then ((moraineref04_Encode.f k t268 (y281 ++ t274)).bind fun bt287 => (some (bt287.1, bt287.2))) else (none)) = some (r1, r2) := by first | (rw [hy281]; with_reducible exact H) | (have H2_ := (Option.bind_some _ _).symm.trans H; rw [hy281]; with_reducible exact H2_) | (have H2_ := (Option.bind_some _ _).symm.trans H; with_reducible exact H2_) | with_reducible exact H | (rw [hy281]; exact H) | exact H
        have Ny281 := Aside0.mk hy281
        clear hy281
        by_cases c8 : y281.length + t274.length < 3518437208883
        · rw [if_pos c8] at H
          have LMc8 := Aside0.mk c8
          clear c8
          obtain ⟨y284, hy284⟩ : ∃ y_ : List (S65), y_ = (y281 ++ t274) := ⟨_, rfl⟩
          replace H : ((moraineref04_Encode.f k t268 y284).bind fun bt287 => (some (bt287.1, bt287.2))) = some (r1, r2) := by first | (rw [hy284]; with_reducible exact H) | (have H2_ := (Option.bind_some _ _).symm.trans H; rw [hy284]; with_reducible exact H2_) | (have H2_ := (Option.bind_some _ _).symm.trans H; with_reducible exact H2_) | with_reducible exact H | (rw [hy284]; exact H) | exact H
          have Ny284 := Aside0.mk hy284
          clear hy284
          replace H := Option.bind_eq_some_iff.mp H
          obtain ⟨⟨t287, t288⟩, A90, H⟩ := H
          replace H : (some (t287, t288)) = some (r1, r2) := H
          have A9 := Aside0.mk A90
          clear A90
          simp only [Option.some.injEq, Prod.mk.injEq] at H
          obtain ⟨rfl, rfl⟩ := H
          go_enter Try.func45, Try.ntmps45
          go_wp2_with (first | ((with_reducible refine gate_callee (f := 34) rfl ?_); refine goesL_ (some 14) rfl rfl Try.func34 (by kernel_rfl) rfl #[.slice A0 l0.length c0] rfl (by (try simp only [List.map_toArray, List.map_cons, List.map_nil]); first | done | rfl | (simp only [List.length_drop, List.length_take]; rfl)) ?_; (with_reducible refine (moraineref04_Decode.calls k _ _ l0 t268 t269 t270 _ ?side1 ?side2 A3.out).mono ?_); (case side1 => repeat (first | exact HR0.out | (with_reducible refine Kd.C_alloc ?_ _) | (with_reducible refine Kd.C_drewN ?_ _) | (with_reducible refine Kd.C_drew ?_))); (case side2 => exact HC0.out); rintro e w10 ⟨v271, rfl, ho0, hb⟩; refine ⟨_, rfl, ?_⟩; have n0_ := Aside0.mk (Kd.R_lower ho0 (below_size (by repeat (first | (with_reducible first | exact HB.out | apply below_alloc | apply pw_below_drewN | apply below_drew1) | exact HB.out)))); have n1_ := Aside0.mk (below_step (by repeat (first | (with_reducible first | exact HB.out | apply below_alloc | apply pw_below_drewN | apply below_drew1) | exact HB.out)) hb); clear HB; have HO272 := n0_; have HB := n1_; clear n0_ n1_; (try clear hb); (try clear hb2); (try clear hk); (try clear hi); (try clear ho0)) | ((with_reducible refine gate_callee (f := 34) rfl ?_); refine goesL_ (some 20) rfl rfl Try.func34 (by kernel_rfl) rfl #[.slice A1 l1.length c1] rfl (by (try simp only [List.map_toArray, List.map_cons, List.map_nil]); first | done | rfl | (simp only [List.length_drop, List.length_take]; rfl)) ?_; (with_reducible refine (moraineref04_Decode.calls k _ _ l1 t273 t274 t275 _ ?side1 ?side2 A4.out).mono ?_); (case side1 => repeat (first | exact (Kd.C_below HR1.out HB.out) | (with_reducible refine Kd.C_alloc ?_ _) | (with_reducible refine Kd.C_drewN ?_ _) | (with_reducible refine Kd.C_drew ?_))); (case side2 => exact HC1.out); rintro e w11 ⟨v276, rfl, ho0, hb⟩; refine ⟨_, rfl, ?_⟩; have n0_ := Aside0.mk (Kd.R_elder' (by (with_reducible repeat (first | apply Kd.R_alloc | apply Kd.R_drewN | apply Kd.R_drew)); exact HO272.out) (Kd.R_base ho0) hb); have n1_ := Aside0.mk (Kd.R_lower (Kd.R_new' ho0 (Kd.R_lt (by (with_reducible repeat (first | apply Kd.R_alloc | apply Kd.R_drewN | apply Kd.R_drew)); exact HO272.out))) (below_size (by repeat (first | (with_reducible first | exact HB.out | apply below_alloc | apply pw_below_drewN | apply below_drew1) | exact HB.out)))); have n2_ := Aside0.mk (below_step (by repeat (first | (with_reducible first | exact HB.out | apply below_alloc | apply pw_below_drewN | apply below_drew1) | exact HB.out)) hb); clear HO272; clear HB; have HO272 := n0_; have HO277 := n1_; have HB := n2_; clear n0_ n1_ n2_; (try clear hb); (try clear hb2); (try clear hk); (try clear hi); (try clear ho0)) | ((with_reducible refine gate_dst (N := 31) rfl ?_); refine Kd.R_lit k65 _ 65 ?hg (N := 31) ?hd (xs := ([] : List (S65))) (inner := []) (ok := fun _ => True) (okp := fun _ => True) ?hr ?hp (fun _ hk => hk) trivial (Below.refl _ _) (Nat.le_refl _) (by simp) ?_; (case hd => rfl); (case hg => rfl); (case hr => first | (go_simp; done) | (go_simp; rfl)); (case hp => exact (Reps.none _ _)); intro v279 w12 ho13 hb hg_ hnew_; clear hg_ hnew_; (first | rw [← Ny278.out] at ho13 | (simp only [Int.reduceToNat] at ho13; rw [← Ny278.out] at ho13)); have n0_ := Aside0.mk (Kd.R_elder' (by (with_reducible repeat (first | apply Kd.R_alloc | apply Kd.R_drewN | apply Kd.R_drew)); exact HO272.out) (Kd.R_base ho13) hb); have n1_ := Aside0.mk (Kd.R_elder' (by (with_reducible repeat (first | apply Kd.R_alloc | apply Kd.R_drewN | apply Kd.R_drew)); exact HO277.out) (Kd.R_base ho13) hb); have n2_ := Aside0.mk (Kd.R_lower (Kd.R_new' (Kd.R_new' ho13 (Kd.R_lt (by (with_reducible repeat (first | apply Kd.R_alloc | apply Kd.R_drewN | apply Kd.R_drew)); exact HO272.out))) (Kd.R_lt (by (with_reducible repeat (first | apply Kd.R_alloc | apply Kd.R_drewN | apply Kd.R_drew)); exact HO277.out))) (below_size (by repeat (first | (with_reducible first | exact HB.out | apply below_alloc | apply pw_below_drewN | apply below_drew1) | exact HB.out)))); have n3_ := Aside0.mk (below_step (by repeat (first | (with_reducible first | exact HB.out | apply below_alloc | apply pw_below_drewN | apply below_drew1) | exact HB.out)) hb); clear HO272; clear HO277; clear HB; have HO272 := n0_; have HO277 := n1_; have HO280 := n2_; have HB := n3_; clear n0_ n1_ n2_ n3_; clear hb ho13; obtain ⟨Ao15, co15, eo15⟩ := Kd.R_slice HO272.out; subst eo15) | ((with_reducible refine gate_builtin (b := .append) (xs := #[.tmp 31, .tmp 32]) rfl ?_); at_builtin; refine Kd.R_append_rows k65 (w0 := w) w.heap.size rfl (.tmp 31) (.tmp 32) 22 65 (.agg #[(.int .i64 0), (.string ⟨#[]⟩), (.string ⟨#[]⟩)]) 40 rfl Try.underlying22 info65 rfl (by decide) (by omega) v279 y278 t269 _ _ _ (fun k_ => some k_ ≠ (.slice Ao15 t269.length co15 : Value).ownBlock ∧ some k_ ≠ (v276 : Value).ownBlock) (fun _ => False) rfl rfl ?aO ?aR (fun _ _ h => h) (fun _ h => h.elim) ?aF ?aB ?aS ?aL ?_; (case aR => repeat (first | exact (Kd.R_reads' HO272.out).2.2 | (with_reducible refine Kd.C_alloc ?_ _) | (with_reducible refine Kd.C_drewN ?_ _) | (with_reducible refine Kd.C_drew ?_))); (case aB => exact (by repeat (first | (with_reducible first | exact HB.out | apply below_alloc | apply pw_below_drewN | apply below_drew1) | exact HB.out))); (case aF => exact (fun k_ hk => ⟨Kd.fresh' (Kd.R_lt (by (with_reducible repeat (first | apply Kd.R_alloc | apply Kd.R_drewN | apply Kd.R_drew)); exact HO272.out)) k_ hk, Kd.fresh' (Kd.R_lt (by (with_reducible repeat (first | apply Kd.R_alloc | apply Kd.R_drewN | apply Kd.R_drew)); exact HO277.out)) k_ hk⟩)); (case aO => exact (by (with_reducible repeat (first | apply Kd.R_alloc | apply Kd.R_drewN | apply Kd.R_drew)); exact Kd.R_mono HO280.out (fun _ hk => ⟨hk.1.2, hk.2⟩))); (case aS => exact (below_size (by repeat (first | (with_reducible first | exact HB.out | apply below_alloc | apply pw_below_drewN | apply below_drew1) | exact HB.out)))); (case aL => have := LMc7.out; omega); intro v282 w14 ho hb hg hat; rw [← Ny281.out] at ho; have n0_ := Aside0.mk (Kd.R_after (ok := (fun k_ => some k_ ≠ (v276 : Value).ownBlock)) (by (with_reducible repeat (first | apply Kd.R_alloc | apply Kd.R_drewN | apply Kd.R_drew)); exact Kd.R_mono HO272.out (fun _ hk => ⟨hk.1.2, hk.2⟩)) hg hat); have n1_ := Aside0.mk (Kd.R_after (ok := (fun k_ => some k_ ≠ (.slice Ao15 t269.length co15 : Value).ownBlock)) (by (with_reducible repeat (first | apply Kd.R_alloc | apply Kd.R_drewN | apply Kd.R_drew)); exact Kd.R_mono HO277.out (fun _ hk => ⟨hk.1.2, hk.2⟩)) hg hat); have n2_ := Aside0.mk (hb); have n3_ := Aside0.mk (ho); clear HO272; clear HO277; clear HB; clear HO280; have HO272 := n0_; have HO277 := n1_; have HB := n2_; have HO283 := n3_; clear n0_ n1_ n2_ n3_; clear ho hb hg hat; obtain ⟨Ao17, co17, eo17⟩ := Kd.R_slice HO277.out; subst eo17) | ((with_reducible refine gate_builtin (b := .append) (xs := #[.tmp 33, .tmp 34]) rfl ?_); at_builtin; refine Kd.R_append_rows k65 (w0 := w) w.heap.size rfl (.tmp 33) (.tmp 34) 22 65 (.agg #[(.int .i64 0), (.string ⟨#[]⟩), (.string ⟨#[]⟩)]) 40 rfl Try.underlying22 info65 rfl (by decide) (by omega) v282 y281 t274 _ _ _ (fun k_ => some k_ ≠ (.slice Ao15 t269.length co15 : Value).ownBlock ∧ some k_ ≠ (.slice Ao17 t274.length co17 : Value).ownBlock) (fun _ => False) rfl rfl ?aO ?aR (fun _ _ h => h) (fun _ h => h.elim) ?aF ?aB ?aS ?aL ?_; (case aR => repeat (first | exact (Kd.R_reads' HO277.out).2.2 | (with_reducible refine Kd.C_alloc ?_ _) | (with_reducible refine Kd.C_drewN ?_ _) | (with_reducible refine Kd.C_drew ?_))); (case aB => exact (by repeat (first | (with_reducible first | exact HB.out | apply below_alloc | apply pw_below_drewN | apply below_drew1) | exact HB.out))); (case aF => exact (fun k_ hk => ⟨Kd.fresh' (Kd.R_lt (by (with_reducible repeat (first | apply Kd.R_alloc | apply Kd.R_drewN | apply Kd.R_drew)); exact HO272.out)) k_ hk, Kd.fresh' (Kd.R_lt (by (with_reducible repeat (first | apply Kd.R_alloc | apply Kd.R_drewN | apply Kd.R_drew)); exact HO277.out)) k_ hk⟩)); (case aO => exact (by (with_reducible repeat (first | apply Kd.R_alloc | apply Kd.R_drewN | apply Kd.R_drew)); exact HO283.out)); (case aS => exact (below_size (by repeat (first | (with_reducible first | exact HB.out | apply below_alloc | apply pw_below_drewN | apply below_drew1) | exact HB.out)))); (case aL => have := LMc8.out; omega); intro v285 w16 ho hb hg hat; rw [← Ny284.out] at ho; have n0_ := Aside0.mk (Kd.R_after (ok := (fun k_ => some k_ ≠ (.slice Ao17 t274.length co17 : Value).ownBlock)) (by (with_reducible repeat (first | apply Kd.R_alloc | apply Kd.R_drewN | apply Kd.R_drew)); exact HO272.out) hg hat); have n1_ := Aside0.mk (Kd.R_after (ok := (fun k_ => some k_ ≠ (.slice Ao15 t269.length co15 : Value).ownBlock)) (by (with_reducible repeat (first | apply Kd.R_alloc | apply Kd.R_drewN | apply Kd.R_drew)); exact HO277.out) hg hat); have n2_ := Aside0.mk (hb); have n3_ := Aside0.mk (ho); clear HO272; clear HO277; clear HB; clear HO283; have HO272 := n0_; have HO277 := n1_; have HB := n2_; have HO286 := n3_; clear n0_ n1_ n2_ n3_; clear ho hb hg hat; obtain ⟨Ao18, co18, eo18⟩ := Kd.R_slice HO286.out; subst eo18) | ((with_reducible refine gate_callee (f := 22) rfl ?_); refine goesL_ (some 36) rfl rfl Try.func22 (by kernel_rfl) rfl #[.int .u64 t268, .slice Ao18 y284.length co18] rfl (by (try simp only [List.map_toArray, List.map_cons, List.map_nil]); first | done | rfl | (simp only [List.length_drop, List.length_take]; rfl)) ?_; (with_reducible refine (moraineref04_Encode.calls k t268 _ _ y284 t287 t288 _ ?side1 ?side2 A9.out).mono ?_); (case side1 => repeat (first | exact (Kd.R_reads' HO286.out).2.2 | (with_reducible refine Kd.C_alloc ?_ _) | (with_reducible refine Kd.C_drewN ?_ _) | (with_reducible refine Kd.C_drew ?_))); (case side2 => exact (Kd.R_reads' HO286.out).2.1); rintro e w19 ⟨v289, rfl, ho0, hb⟩; refine ⟨_, rfl, ?_⟩; have n0_ := Aside0.mk (Kd.R_below (by (with_reducible repeat (first | apply Kd.R_alloc | apply Kd.R_drewN | apply Kd.R_drew)); exact HO272.out) hb); have n1_ := Aside0.mk (Kd.R_below (by (with_reducible repeat (first | apply Kd.R_alloc | apply Kd.R_drewN | apply Kd.R_drew)); exact HO277.out) hb); have n2_ := Aside0.mk (Kd.R_below (by (with_reducible repeat (first | apply Kd.R_alloc | apply Kd.R_drewN | apply Kd.R_drew)); exact HO286.out) hb); have n3_ := Aside0.mk (Kd.R_lower ho0 (below_size (by repeat (first | (with_reducible first | exact HB.out | apply below_alloc | apply pw_below_drewN | apply below_drew1) | exact HB.out)))); have n4_ := Aside0.mk (below_step (by repeat (first | (with_reducible first | exact HB.out | apply below_alloc | apply pw_below_drewN | apply below_drew1) | exact HB.out)) hb); clear HO272; clear HO277; clear HO286; clear HB; have HO272 := n0_; have HO277 := n1_; have HO286 := n2_; have HO290 := n3_; have HB := n4_; clear n0_ n1_ n2_ n3_ n4_; (try clear hb); (try clear hb2); (try clear hk); (try clear hi); (try clear ho0)))
          go_ret2
          exact ⟨_, by first | rfl | (simp [errW_none, errW_some] <;> rfl) | (simp [*, errW_none, errW_some] <;> rfl), by (with_reducible repeat (first | apply Kd.R_alloc | apply Kd.R_drewN | apply Kd.R_drew)); exact HO290.out, by repeat (first | (with_reducible first | exact HB.out | apply below_alloc | apply pw_below_drewN | apply below_drew1) | exact HB.out)⟩
        · rw [if_neg c8] at H
          exact absurd H (by simp)
      · rw [if_neg c7] at H
        exact absurd H (by simp)
    · rw [if_neg c6] at H
      have c6b0 : (t275 == 0) = false := beq_eq_false_iff_ne.mpr c6
      have c6b1 : (t275 != 0) = true := bne_iff_ne.mpr c6
      simp only [Option.some.injEq, Prod.mk.injEq] at H
      obtain ⟨rfl, rfl⟩ := H
      go_enter Try.func45, Try.ntmps45
      go_wp2_with (first | ((with_reducible refine gate_callee (f := 34) rfl ?_); refine goesL_ (some 14) rfl rfl Try.func34 (by kernel_rfl) rfl #[.slice A0 l0.length c0] rfl (by (try simp only [List.map_toArray, List.map_cons, List.map_nil]); first | done | rfl | (simp only [List.length_drop, List.length_take]; rfl)) ?_; (with_reducible refine (moraineref04_Decode.calls k _ _ l0 t268 t269 t270 _ ?side1 ?side2 A3.out).mono ?_); (case side1 => repeat (first | exact HR0.out | (with_reducible refine Kd.C_alloc ?_ _) | (with_reducible refine Kd.C_drewN ?_ _) | (with_reducible refine Kd.C_drew ?_))); (case side2 => exact HC0.out); rintro e w20 ⟨v271, rfl, ho0, hb⟩; refine ⟨_, rfl, ?_⟩; have n0_ := Aside0.mk (Kd.R_lower ho0 (below_size (by repeat (first | (with_reducible first | exact HB.out | apply below_alloc | apply pw_below_drewN | apply below_drew1) | exact HB.out)))); have n1_ := Aside0.mk (below_step (by repeat (first | (with_reducible first | exact HB.out | apply below_alloc | apply pw_below_drewN | apply below_drew1) | exact HB.out)) hb); clear HB; have HO272 := n0_; have HB := n1_; clear n0_ n1_; (try clear hb); (try clear hb2); (try clear hk); (try clear hi); (try clear ho0)) | ((with_reducible refine gate_callee (f := 34) rfl ?_); refine goesL_ (some 20) rfl rfl Try.func34 (by kernel_rfl) rfl #[.slice A1 l1.length c1] rfl (by (try simp only [List.map_toArray, List.map_cons, List.map_nil]); first | done | rfl | (simp only [List.length_drop, List.length_take]; rfl)) ?_; (with_reducible refine (moraineref04_Decode.calls k _ _ l1 t273 t274 t275 _ ?side1 ?side2 A4.out).mono ?_); (case side1 => repeat (first | exact (Kd.C_below HR1.out HB.out) | (with_reducible refine Kd.C_alloc ?_ _) | (with_reducible refine Kd.C_drewN ?_ _) | (with_reducible refine Kd.C_drew ?_))); (case side2 => exact HC1.out); rintro e w21 ⟨v276, rfl, ho0, hb⟩; refine ⟨_, rfl, ?_⟩; have n0_ := Aside0.mk (Kd.R_elder' (by (with_reducible repeat (first | apply Kd.R_alloc | apply Kd.R_drewN | apply Kd.R_drew)); exact HO272.out) (Kd.R_base ho0) hb); have n1_ := Aside0.mk (Kd.R_lower (Kd.R_new' ho0 (Kd.R_lt (by (with_reducible repeat (first | apply Kd.R_alloc | apply Kd.R_drewN | apply Kd.R_drew)); exact HO272.out))) (below_size (by repeat (first | (with_reducible first | exact HB.out | apply below_alloc | apply pw_below_drewN | apply below_drew1) | exact HB.out)))); have n2_ := Aside0.mk (below_step (by repeat (first | (with_reducible first | exact HB.out | apply below_alloc | apply pw_below_drewN | apply below_drew1) | exact HB.out)) hb); clear HO272; clear HB; have HO272 := n0_; have HO277 := n1_; have HB := n2_; clear n0_ n1_ n2_; (try clear hb); (try clear hb2); (try clear hk); (try clear hi); (try clear ho0)))
      go_ret2
      exact ⟨_, by first | rfl | (simp [errW_none, errW_some] <;> rfl) | (simp [*, errW_none, errW_some] <;> rfl), by first | exact Kd.R_nil _ _ _ _ _ | exact Kd.N_nil _ _ _ _ _ | exact Kd.V_nil _ _ _ _ _ | exact Kd.Q_nil _ _ _ _ _ | exact Kd.S_nil _ _ _ _ _, by repeat (first | (with_reducible first | exact HB.out | apply below_alloc | apply pw_below_drewN | apply below_drew1) | exact HB.out)⟩
  · rw [if_neg c5] at H
    have c5b0 : (t270 == 0) = false := beq_eq_false_iff_ne.mpr c5
    have c5b1 : (t270 != 0) = true := bne_iff_ne.mpr c5
    simp only [Option.some.injEq, Prod.mk.injEq] at H
    obtain ⟨rfl, rfl⟩ := H
    go_enter Try.func45, Try.ntmps45
    go_wp2_with (first | ((with_reducible refine gate_callee (f := 34) rfl ?_); refine goesL_ (some 14) rfl rfl Try.func34 (by kernel_rfl) rfl #[.slice A0 l0.length c0] rfl (by (try simp only [List.map_toArray, List.map_cons, List.map_nil]); first | done | rfl | (simp only [List.length_drop, List.length_take]; rfl)) ?_; (with_reducible refine (moraineref04_Decode.calls k _ _ l0 t268 t269 t270 _ ?side1 ?side2 A3.out).mono ?_); (case side1 => repeat (first | exact HR0.out | (with_reducible refine Kd.C_alloc ?_ _) | (with_reducible refine Kd.C_drewN ?_ _) | (with_reducible refine Kd.C_drew ?_))); (case side2 => exact HC0.out); rintro e w22 ⟨v271, rfl, ho0, hb⟩; refine ⟨_, rfl, ?_⟩; have n0_ := Aside0.mk (Kd.R_lower ho0 (below_size (by repeat (first | (with_reducible first | exact HB.out | apply below_alloc | apply pw_below_drewN | apply below_drew1) | exact HB.out)))); have n1_ := Aside0.mk (below_step (by repeat (first | (with_reducible first | exact HB.out | apply below_alloc | apply pw_below_drewN | apply below_drew1) | exact HB.out)) hb); clear HB; have HO272 := n0_; have HB := n1_; clear n0_ n1_; (try clear hb); (try clear hb2); (try clear hk); (try clear hi); (try clear ho0)) | ((with_reducible refine gate_callee (f := 34) rfl ?_); refine goesL_ (some 20) rfl rfl Try.func34 (by kernel_rfl) rfl #[.slice A1 l1.length c1] rfl (by (try simp only [List.map_toArray, List.map_cons, List.map_nil]); first | done | rfl | (simp only [List.length_drop, List.length_take]; rfl)) ?_; (with_reducible refine (moraineref04_Decode.calls k _ _ l1 t273 t274 t275 _ ?side1 ?side2 A4.out).mono ?_); (case side1 => repeat (first | exact (Kd.C_below HR1.out HB.out) | (with_reducible refine Kd.C_alloc ?_ _) | (with_reducible refine Kd.C_drewN ?_ _) | (with_reducible refine Kd.C_drew ?_))); (case side2 => exact HC1.out); rintro e w23 ⟨v276, rfl, ho0, hb⟩; refine ⟨_, rfl, ?_⟩; have n0_ := Aside0.mk (Kd.R_elder' (by (with_reducible repeat (first | apply Kd.R_alloc | apply Kd.R_drewN | apply Kd.R_drew)); exact HO272.out) (Kd.R_base ho0) hb); have n1_ := Aside0.mk (Kd.R_lower (Kd.R_new' ho0 (Kd.R_lt (by (with_reducible repeat (first | apply Kd.R_alloc | apply Kd.R_drewN | apply Kd.R_drew)); exact HO272.out))) (below_size (by repeat (first | (with_reducible first | exact HB.out | apply below_alloc | apply pw_below_drewN | apply below_drew1) | exact HB.out)))); have n2_ := Aside0.mk (below_step (by repeat (first | (with_reducible first | exact HB.out | apply below_alloc | apply pw_below_drewN | apply below_drew1) | exact HB.out)) hb); clear HO272; clear HB; have HO272 := n0_; have HO277 := n1_; have HB := n2_; clear n0_ n1_ n2_; (try clear hb); (try clear hb2); (try clear hk); (try clear hi); (try clear ho0)))
    go_ret2
    exact ⟨_, by first | rfl | (simp [errW_none, errW_some] <;> rfl) | (simp [*, errW_none, errW_some] <;> rfl), by first | exact Kd.R_nil _ _ _ _ _ | exact Kd.N_nil _ _ _ _ _ | exact Kd.V_nil _ _ _ _ _ | exact Kd.Q_nil _ _ _ _ _ | exact Kd.S_nil _ _ _ _ _, by repeat (first | (with_reducible first | exact HB.out | apply below_alloc | apply pw_below_drewN | apply below_drew1) | exact HB.out)⟩

end Go.Proofs.Ythkooncibfkepaa.G

/- Contracts typed by hand: plain laws of reading a batch: the reference reads as the program does -/
namespace Go.Proofs.Ythkooncibfkepaa.G
open Go.RowKit Go.Proofs.YthkooncibfkepaaW.PrintWords Go.Proofs.YthkooncibfkepaaW.PrintLast Go.Proofs.YthkooncibfkepaaW.PrintMore
attribute [local go_sem] max2_int min2_int max_two min_two max_three min_three max_four min_four
set_option linter.unusedVariables false
set_option linter.unusedSimpArgs false

/-! plain laws of reading a batch: the reference reads as the program does -/
theorem i64_or_small (a b : Nat) (ha : a < 4294967296) (hb : b < 4294967296) : bits .or .i64 (a : Int) (b : Int) = ((a ||| b : Nat) : Int) := by
  have hx : a ||| b < 2 ^ 32 := Nat.or_lt_two_pow (by omega) (by omega)
  show IntKind.i64.wrap ((BitVec.ofInt 64 (a : Int) ||| BitVec.ofInt 64 (b : Int)).toNat : Int) = _
  rw [BitVec.toNat_or, ofInt_u64 a (by omega), ofInt_u64 b (by omega)]
  exact Lib.wrap_i64_small _ (by omega)
theorem group28 {v c : Int} {j : Nat} (h : Fits v j) (hj : j ≤ 3) (c0 : 0 ≤ c) (c1 : c < 128) :
    bits .or .i64 v (shl .i64 c ((7 * j : Nat) : Int)) = up v c j ∧ Fits (up v c j) (j + 1) ∧ 0 ≤ up v c j ∧ up v c j < 268435456 := by
  have hg := group7 h (by omega) c0 c1
  have hf := hg.2.2.1
  have hp : (2 : Int) ^ (7 * (j + 1)) ≤ 268435456 := by
    have h1 : (2 : Nat) ^ (7 * (j + 1)) ≤ 2 ^ 28 := Nat.pow_le_pow_right (by decide) (by omega)
    have h2 : (2 : Nat) ^ 28 = 268435456 := by decide
    have h3 : (((2 : Nat) ^ (7 * (j + 1)) : Nat) : Int) = (2 : Int) ^ (7 * (j + 1)) := by rw [Int.natCast_pow]; rfl
    omega
  refine ⟨?_, hf, hf.1, Int.lt_of_lt_of_le hf.2 hp⟩
  have hlt := Int.lt_of_lt_of_le hf.2 hp
  unfold up at hlt ⊢
  obtain ⟨v, rfl⟩ := Int.eq_ofNat_of_zero_le h.1
  obtain ⟨c, rfl⟩ := Int.eq_ofNat_of_zero_le c0
  have hv : v < 2 ^ (7 * j) := by exact_mod_cast h.2
  have e2 : ((c : Int) * 2 ^ (7 * j)) = ((2 ^ (7 * j) * c : Nat) : Int) := by rw [Int.natCast_mul, Int.natCast_pow, Int.mul_comm]; rfl
  rw [e2] at hlt ⊢
  have e4 : shl .i64 (c : Int) ((7 * j : Nat) : Int) = ((2 ^ (7 * j) * c : Nat) : Int) := by
    unfold shl
    rw [Int.toNat_natCast, Nat.min_eq_left (show 7 * j ≤ IntKind.i64.bits by simp [IntKind.bits]; omega), e2]
    exact Lib.wrap_i64_small _ (by omega)
  rw [e4, i64_or_small v _ (by omega) (by omega), Nat.or_comm, ← Nat.two_pow_add_eq_or_of_lt hv c]
  omega
/-- what the reference makes of a length that was read -/
def fin (l : List Int) (most : Int) (r : Int × Int × Int) : ByteArray × Int :=
  if r.2.2 = 0 then (if r.1 > most then (⟨#[]⟩, -1) else if r.1 > (l.length : Int) - r.2.1 then (⟨#[]⟩, -1) else (strOfNums ((l.take (r.2.1 + r.1).toNat).drop r.2.1.toNat), r.2.1 + r.1)) else (⟨#[]⟩, -1)
theorem fin_eq (l : List Int) (most n w : Int) (hn0 : 0 ≤ n) (hn1 : n ≤ l.length) (hw0 : 0 ≤ w) (hw1 : w < 268435456) (hl : l.length ≤ 1099511627776) :
    (if w > most then (some ((⟨#[]⟩ : ByteArray), (-1 : Int))) else (if w > (wrap64 ((l.length : Int) - n)) then (some ((⟨#[]⟩ : ByteArray), (-1))) else (if 0 ≤ n then (if n ≤ (wrap64 (n + w)) then (if (wrap64 (n + w)) ≤ (l.length : Int) then (some (strOfNums ((l.take ((wrap64 (n + w)) : Int).toNat).drop (n : Int).toNat), wrap64 (n + w))) else (none)) else (none)) else (none)))) = some (fin l most (w, n, 0)) := by
  have e1 : wrap64 ((l.length : Int) - n) = (l.length : Int) - n := by unfold wrap64; omega
  have e2 : wrap64 (n + w) = n + w := by unfold wrap64; omega
  unfold fin
  rw [e1, e2]
  simp only [if_true]
  by_cases h1 : w > most
  · rw [if_pos h1, if_pos h1]
  · rw [if_neg h1, if_neg h1]
    by_cases h2 : w > (l.length : Int) - n
    · rw [if_pos h2, if_pos h2]
    · rw [if_neg h2, if_neg h2, if_pos hn0, if_pos (by omega), if_pos (by omega)]
theorem go_big (p : Int) (cs : List Int) (v w n e most : Int) (l : List Int) (hv : Fits v 4) (hb : Bytes cs) (hm : most < 268435456) (h : codec_Varint.go p cs 4 v = (w, n, e)) : fin l most (w, n, e) = (⟨#[]⟩, -1) := by
  unfold fin
  by_cases he : e = 0
  · subst he
    obtain ⟨u, u0, u1, hw, _⟩ := go_was p cs 4 v w n (by omega) hv hb h
    have : (1 : Int) ≤ u := by rcases u1 with h | h; omega; exact h
    have hv0 := hv.1
    have hbig : w > most := by
      rw [hw]
      unfold up
      rw [show (2 : Int) ^ (7 * 4) = 268435456 by decide]
      omega
    simp only [if_true]
    rw [if_pos hbig]
  · simp only []
    rw [if_neg he]
theorem refread_go (l : List Int) (p most : Int) (h0 : 0 ≤ p) (hb : Bytes l) (hl : l.length ≤ 1099511627776) (hm1 : most < 268435456) : ∀ (d k j : Nat) (v : Int), j + d = 4 → p + j ≤ l.length → Fits v j → 2 * d + 2 ≤ k →
    moraineref04_read.l0 k l (p + j) most v ((7 * j : Nat) : Int) = some (fin l most (codec_Varint.go p (l.drop (p.toNat + j)) j v)) := by
  intro d
  induction d with
  | zero =>
    intro k j v hj hp hv hk
    obtain ⟨k, rfl⟩ : ∃ m, k = m + 2 := ⟨k - 2, by omega⟩
    obtain rfl : j = 4 := by omega
    obtain ⟨⟨w, n, e⟩, hr⟩ : ∃ r, codec_Varint.go p (l.drop (p.toNat + 4)) 4 v = r := ⟨_, rfl⟩
    rw [hr, go_big p _ v w n e most l hv (hb.drop _) hm1 hr]
    simp only [moraineref04_read.l0]
    have hd : decide (((7 * 4 : Nat) : Int) > 21) = true := by decide
    rw [hd]
    split <;> simp only [moraineref04_read.j1, if_true]
  | succ d ih =>
    intro k j v hj hp hv hk
    obtain ⟨k, rfl⟩ : ∃ m, k = m + 2 := ⟨k - 2, by omega⟩
    by_cases he : p + j = (l.length : Int)
    · have hn : l.drop (p.toNat + j) = [] := List.drop_eq_nil_of_le (by omega)
      rw [hn]
      simp only [moraineref04_read.l0, codec_Varint.go]
      rw [if_pos (by omega)]
      simp only [moraineref04_read.j1, if_true]
      rfl
    · have hlt : p + (j : Int) < l.length := by omega
      have hc := rd_byte hb (p + j) (by omega) hlt
      have hm : Int.tmod (rd l (p + j)) 128 = rd l (p + j) % 128 := Int.tmod_eq_emod_of_nonneg hc.1
      have hd : decide (((7 * j : Nat) : Int) > 21) = false := decide_eq_false (by omega)
      have ew : wrap64 (rd l (p + j)) = rd l (p + j) := by unfold wrap64; omega
      have e1 : wrap64 (p + (j : Int) + 1) = p + ((j + 1 : Nat) : Int) := by unfold wrap64; omega
      have e7 : wrap64 (((7 * j : Nat) : Int) + 7) = ((7 * (j + 1) : Nat) : Int) := by unfold wrap64; omega
      rw [drop_at l p j h0 hlt]
      simp only [moraineref04_read.l0]
      rw [if_neg (by omega), hd]
      simp only [moraineref04_read.j1]
      rw [if_neg (by decide), if_pos (by omega), if_pos hlt, if_pos (by omega), ew, e1, e7, hm]
      generalize rd l (p + j) = c at *
      have hg := group28 (c := c % 128) hv (by omega) (by omega) (by omega)
      rw [hg.1]
      have hfin := fun w (h1 : 0 ≤ w) h2 => fin_eq l most (p + ((j + 1 : Nat) : Int)) w (by omega) (by omega) h1 h2 hl
      rw [hfin _ hg.2.2.1 hg.2.2.2]
      simp only [codec_Varint.go]
      rw [if_neg (show ¬ (j = 9 ∧ 1 < c) from fun q => by omega)]
      by_cases h128 : c < 128
      · have hmod : c % 128 = c := by omega
        have hu := (group7 hv (by omega) hc.1 h128).1
        rw [if_pos h128, hmod]
        by_cases hz : c = 0
        · rw [if_pos hz]
          by_cases hj0 : 0 < j
          · rw [if_pos (show ((7 * j : Nat) : Int) > 0 by omega), if_pos (show c = 0 ∧ 0 < j from ⟨hz, hj0⟩)]
            rfl
          · rw [if_neg (show ¬ ((7 * j : Nat) : Int) > 0 by omega), if_neg (show ¬ (c = 0 ∧ 0 < j) from fun q => hj0 q.2), if_pos h128, hu, show p + ((j + 1 : Nat) : Int) = p + (j : Int) + 1 by omega]
        · rw [if_neg hz, if_neg (show ¬ (c = 0 ∧ 0 < j) from fun q => hz q.1), if_pos h128, hu, show p + ((j + 1 : Nat) : Int) = p + (j : Int) + 1 by omega]
      · rw [if_neg h128, if_neg (show ¬ (c = 0 ∧ 0 < j) from fun q => h128 (by omega)), if_neg h128, and127 c hc.1 hc.2, (group7 (c := c % 128) hv (by omega) (by omega) (by omega)).1]
        exact ih k (j + 1) (up v (c % 128) j) (by omega) (by omega) hg.2.1 (by omega)
theorem refread_eq (l : List Int) (p most : Int) (k : Nat) (h0 : 0 ≤ p) (hp : p ≤ l.length) (hb : Bytes l) (hl : l.length ≤ 1099511627776) (hm1 : most < 268435456) (hk : 10 ≤ k) :
    moraineref04_read.f k l p most = some (if (txt l p).2.2 = 0 ∧ ((txt l p).1.size : Int) ≤ most then ((txt l p).1, (txt l p).2.1) else (⟨#[]⟩, -1)) := by
  have h := refread_go l p most h0 hb hl hm1 4 k 0 0 rfl (by omega) fits0 (by omega)
  have e0 : p + ((0 : Nat) : Int) = p := by omega
  rw [e0] at h
  unfold moraineref04_read.f
  rw [show ((7 * 0 : Nat) : Int) = 0 from rfl] at h
  refine h.trans ?_
  congr 1
  have ht := (txt_eq l p hb hl).1
  obtain ⟨v, n, e, hv, hh⟩ := varint_some l p hb (by omega)
  have hgo : codec_Varint.go p (l.drop (p.toNat + 0)) 0 0 = (v, n, e) := by
    have := hv
    unfold codec_Varint.f at this
    rw [if_neg (by omega), if_neg (by omega), if_pos (by omega)] at this
    exact Option.some.inj this
  rw [hgo]
  unfold codec_Text.f at ht
  rw [hv, Option.bind_some] at ht
  unfold fin
  rcases hh with ⟨rfl, v0, v1, p0, n0, n1⟩ | ⟨he, _, _, rfl, rfl⟩
  · simp only [if_true] at ht ⊢
    rw [if_pos v0, if_pos (by omega), if_pos n1, if_pos (by omega)] at ht
    by_cases h2 : v > (l.length : Int) - n
    · rw [if_pos h2] at ht
      have ht2 := Option.some.inj ht
      rw [← ht2]
      rw [if_neg (show ¬ ((10 : Int) = 0 ∧ _) from fun q => by omega)]
      by_cases h3 : v > most
      · rw [if_pos h3]
      · rw [if_neg h3, if_pos h2]
    · rw [if_neg h2] at ht
      have ht2 := Option.some.inj ht
      rw [← ht2]
      have hz : ((strOfNums ((l.take (n + v).toNat).drop n.toNat)).size : Int) = v := by
        rw [nums_size, List.length_drop, List.length_take]
        omega
      simp only [hz]
      by_cases h3 : v > most
      · rw [if_pos h3, if_neg (fun q => by omega)]
      · rw [if_neg h3, if_neg h2, if_pos ⟨trivial, by omega⟩]
  · simp only [] at ht ⊢
    rw [if_neg he] at ht ⊢
    have ht2 := Option.some.inj ht
    rw [← ht2]
    rw [if_neg (fun q => he q.1)]
theorem may_long1 (x : Op04) (h : (x.f1.size : Int) > 1024) : mayB x = false := by
  unfold mayB
  rw [if_neg (by omega), if_pos h]
theorem may_long2 (x : Op04) (h : (x.f2.size : Int) > 65536) (h0 : x.f0 ≠ 0) : mayB x = false := by
  unfold mayB
  by_cases h1 : (x.f1.size : Int) < 1
  · rw [if_pos h1]
  · rw [if_neg h1]
    by_cases h2 : (x.f1.size : Int) > 1024
    · rw [if_pos h2]
    · rw [if_neg h2, if_neg h0]
      by_cases h3 : x.f0 = 1
      · rw [if_pos h3]; exact decide_eq_false (by omega)
      · rw [if_neg h3]
        by_cases h4 : x.f0 = 2
        · rw [if_pos h4, if_neg (by omega)]
        · rw [if_neg h4]
theorem May_eq_any (k : Nat) (x : Op04) (hk : 1 ≤ k) : moraineref04_May.f k x.f0 x.f1 x.f2 = some (mayB x) := by
  obtain ⟨m, rfl⟩ : ∃ m, k = m + 1 := ⟨k - 1, by omega⟩
  exact May_eq m x
/-- what the reference's op answers -/
def opR (l : List Int) (p : Int) : Int × ByteArray × ByteArray × Int := if (rdR l p).2.2 = true then ((rdR l p).1.f0, (rdR l p).1.f1, (rdR l p).1.f2, (rdR l p).2.1) else (0, ⟨#[]⟩, ⟨#[]⟩, -1)
theorem refop_eq (l : List Int) (p : Int) (k : Nat) (h0 : 0 ≤ p) (hb : Bytes l) (hl : l.length ≤ 1099511627776) (hk : 11 ≤ k) : moraineref04_op.f k l p = some (opR l p) := by
  unfold moraineref04_op.f opR
  by_cases c1 : p ≥ (l.length : Int)
  · have er : (rdR l p).2.2 = false := by unfold rdR; rw [if_pos c1]
    rw [if_pos c1, er, if_neg (by decide)]
  · have ew : wrap64 (p + 1) = p + 1 := by unfold wrap64; omega
    have hc := rd_byte hb p h0 (by omega)
    have ec : wrap64 (rd l p) = rd l p := by unfold wrap64; omega
    rw [if_neg c1, if_pos h0, if_pos (by omega), ew, ec, refread_eq l (p + 1) 1024 k (by omega) (by omega) hb hl (by omega) (by omega), Option.bind_some]
    obtain ⟨k, rfl⟩ : ∃ m, k = m + 1 := ⟨k - 1, by omega⟩
    have ht := (txt_eq l (p + 1) hb hl).2
    obtain ⟨s1, n1, z1, e1⟩ : ∃ s n z, txt l (p + 1) = (s, n, z) := ⟨_, _, _, rfl⟩
    have er : rdR l p = (if z1 ≠ 0 then (⟨0, ⟨#[]⟩, ⟨#[]⟩⟩, 0, false) else if rd l p = 0 then (⟨0, s1, ⟨#[]⟩⟩, n1, mayB ⟨0, s1, ⟨#[]⟩⟩)
        else if (txt l n1).2.2 ≠ 0 then (⟨rd l p, s1, (txt l n1).1⟩, (txt l n1).2.1, false) else (⟨rd l p, s1, (txt l n1).1⟩, (txt l n1).2.1, mayB ⟨rd l p, s1, (txt l n1).1⟩)) := by
      unfold rdR; rw [if_neg c1, e1]
    rw [e1] at ht ⊢
    simp only [] at ht
    by_cases c2 : z1 = 0
    · rw [if_neg (by omega)] at er
      have hn1 : 0 ≤ n1 ∧ n1 ≤ l.length := by rcases ht with h | h; exact ⟨by omega, by omega⟩; exact absurd c2 h.1
      by_cases c3 : (s1.size : Int) ≤ 1024
      · rw [if_pos (show z1 = 0 ∧ (s1.size : Int) ≤ 1024 from ⟨c2, c3⟩)]
        dsimp only []
        rw [if_pos (show n1 ≥ 0 by omega)]
        simp only [moraineref04_op.j0]
        by_cases c4 : rd l p = 0
        · rw [if_pos c4] at er
          rw [c4, if_neg (by decide), if_neg (by omega), May_eq_any k ⟨0, s1, ⟨#[]⟩⟩ (by omega), Option.bind_some, er]
          by_cases c5 : mayB ⟨0, s1, ⟨#[]⟩⟩ = true
          · rw [if_pos c5, if_pos c5]
          · rw [if_neg c5, if_neg c5]
        · rw [if_neg c4] at er
          rw [if_pos (by simpa using c4), refread_eq l n1 65536 k hn1.1 hn1.2 hb hl (by omega) (by omega), Option.bind_some]
          have ht2 := (txt_eq l n1 hb hl).2
          obtain ⟨s2, n2, z2, e2⟩ : ∃ s n z, txt l n1 = (s, n, z) := ⟨_, _, _, rfl⟩
          rw [e2] at ht2 er ⊢
          simp only [] at ht2 er
          by_cases c6 : z2 = 0
          · rw [if_neg (by omega)] at er
            have hn2 : 0 ≤ n2 := by rcases ht2 with h | h; omega; exact absurd c6 h.1
            by_cases c7 : (s2.size : Int) ≤ 65536
            · rw [if_pos (show z2 = 0 ∧ (s2.size : Int) ≤ 65536 from ⟨c6, c7⟩)]
              dsimp only []
              rw [if_neg (by omega), May_eq_any k ⟨rd l p, s1, s2⟩ (by omega), Option.bind_some, er]
              by_cases c5 : mayB ⟨rd l p, s1, s2⟩ = true
              · rw [if_pos c5, if_pos c5]
              · rw [if_neg c5, if_neg c5]
            · rw [if_neg (show ¬ (z2 = 0 ∧ (s2.size : Int) ≤ 65536) from fun q => c7 q.2)]
              dsimp only []
              rw [if_pos (by omega), er, if_neg (by simp [may_long2 ⟨rd l p, s1, s2⟩ (by simp only []; omega) c4])]
          · rw [if_pos (by omega)] at er
            rw [if_neg (show ¬ (z2 = 0 ∧ (s2.size : Int) ≤ 65536) from fun q => c6 q.1)]
            dsimp only []
            rw [if_pos (by omega), er, if_neg (by simp)]
      · rw [if_neg (show ¬ (z1 = 0 ∧ (s1.size : Int) ≤ 1024) from fun q => c3 q.2)]
        dsimp only []
        rw [if_neg (by omega)]
        simp only [moraineref04_op.j0]
        rw [if_neg (by decide), if_pos (by omega), er]
        have hm := fun c s => may_long1 ⟨c, s1, s⟩ (by simp only []; omega)
        rw [if_neg]
        split
        · simp [hm]
        · split
          · simp
          · simp [hm]
    · rw [if_pos (by omega)] at er
      rw [if_neg (show ¬ (z1 = 0 ∧ (s1.size : Int) ≤ 1024) from fun q => c2 q.1)]
      dsimp only []
      rw [if_neg (by omega)]
      simp only [moraineref04_op.j0]
      rw [if_neg (by decide), if_pos (by omega), er, if_neg (by simp)]
theorem walked_loop (l : List Int) (seq s cnt : Int) (k0 : Nat) (hk0 : 11 ≤ k0) (hb : Bytes l) (hl : l.length ≤ 1048576) (hc : cnt < 4294967296) : ∀ (d i k : Nat) (p : Int) (acc : List Op04), 0 ≤ p → p ≤ l.length → (acc.length : Int) + d = cnt → k0 + (l.length - p.toNat) + 1 ≤ k →
    moraineref04_Walked.l0 k l seq cnt p acc = some (seq, acc ++ opsOf04 (gos l s d i p), endAt p (gos l s d i p)) := by
  intro d
  induction d with
  | zero =>
    intro i k p acc h0 hp ha hk
    obtain ⟨k, rfl⟩ : ∃ m, k = m + 1 := ⟨k - 1, by omega⟩
    simp only [moraineref04_Walked.l0]
    rw [if_neg (by omega)]
    simp [gos, opsOf04, endAt]
  | succ d ih =>
    intro i k p acc h0 hp ha hk
    obtain ⟨k, rfl⟩ : ∃ m, k = m + 1 := ⟨k - 1, by omega⟩
    simp only [moraineref04_Walked.l0]
    rw [if_pos (by omega), refop_eq l p k h0 hb (by omega) (by omega), Option.bind_some]
    unfold opR gos
    by_cases hr : (rdR l p).2.2 = true
    · have hn := rdR_next l hb (by omega) p hr
      rw [if_pos hr, if_pos hr]
      simp only []
      rw [if_neg (by omega), if_pos (by omega)]
      rw [ih (i + 1) k (rdR l p).2.1 (acc ++ [(rdR l p).1]) hn.1 hn.2.2 (by rw [List.length_append]; simp only [List.length_cons, List.length_nil]; omega) (by omega), endAt_cons]
      simp only [opsOf04, List.map_cons, List.append_assoc, List.cons_append, List.nil_append]
    · rw [if_neg hr, if_neg hr]
      simp only []
      rw [if_pos (by omega)]
      simp [opsOf04, endAt]
theorem or_byte8 (v b : Int) (v0 : 0 ≤ v) (v1 : v < 72057594037927936) (b0 : 0 ≤ b) (b1 : b ≤ 255) : bits .or .u64 (IntKind.u64.wrap (v * 256)) (IntKind.u64.wrap b) = b + 256 * v := by
  obtain ⟨v, rfl⟩ := Int.eq_ofNat_of_zero_le v0
  obtain ⟨b, rfl⟩ := Int.eq_ofNat_of_zero_le b0
  have e1 : IntKind.u64.wrap ((v : Int) * 256) = ((2 ^ 8 * v : Nat) : Int) := by rw [Go.IntKind.wrap_u64]; omega
  have e2 : IntKind.u64.wrap (b : Int) = (b : Int) := by rw [Go.IntKind.wrap_u64]; omega
  rw [e1, e2, u64_or_nat _ b (by omega) (by omega), ← Nat.two_pow_add_eq_or_of_lt (show b < 2 ^ 8 by omega) v]
  omega
theorem number_loop (l : List Int) (p n : Nat) (hb : Bytes l) (hn : n ≤ 8) (hp : p + n ≤ l.length) (hl : l.length ≤ 1099511627776) : ∀ (m k : Nat) (v : Int), m ≤ n → v = le (seg l (p + m) (n - m)) → m + 1 ≤ k →
    moraineref04_number.l0 k l (p : Int) v ((m : Int) - 1) = some (le (seg l p n)) := by
  intro m
  induction m with
  | zero =>
    intro k v hm hv hk
    obtain ⟨k, rfl⟩ : ∃ m, k = m + 1 := ⟨k - 1, by omega⟩
    simp only [moraineref04_number.l0]
    rw [if_neg (by omega), hv]
    rfl
  | succ m ih =>
    intro k v hm hv hk
    obtain ⟨k, rfl⟩ : ∃ m, k = m + 1 := ⟨k - 1, by omega⟩
    have ei : wrap64 ((p : Int) + (((m + 1 : Nat) : Int) - 1)) = ((p + m : Nat) : Int) := by unfold wrap64; omega
    have ed : wrap64 ((((m + 1 : Nat) : Int) - 1) - 1) = (m : Int) - 1 := by unfold wrap64; omega
    have hc := rd_byte hb ((p + m : Nat) : Int) (by omega) (by omega)
    have hr := le_range (seg l (p + (m + 1)) (n - (m + 1))) (seg_bytes hb _ _)
    have hsl := seg_len l (p + (m + 1)) (n - (m + 1)) (by omega)
    have hv1 : v < 72057594037927936 := by
      have h1 : (2 : Nat) ^ (8 * (n - (m + 1))) ≤ 2 ^ 56 := Nat.pow_le_pow_right (by decide) (by omega)
      have h2 : (2 : Nat) ^ 56 = 72057594037927936 := by decide
      have h3 : (((2 : Nat) ^ (8 * (n - (m + 1))) : Nat) : Int) = (2 : Int) ^ (8 * (n - (m + 1))) := by rw [Int.natCast_pow]; rfl
      rw [hsl] at hr
      omega
    simp only [moraineref04_number.l0]
    rw [if_pos (by omega), ei, if_pos (by omega), if_pos (by omega), ed, or_byte8 v _ (by omega) hv1 hc.1 hc.2]
    refine ih k _ (by omega) ?_ (by omega)
    rw [show n - m = (n - (m + 1)) + 1 by omega, seg_cons l (p + m) _ (by omega)]
    simp only [le]
    rw [hv]
    rfl
theorem refnumber_eq (l : List Int) (p n k : Nat) (hb : Bytes l) (hn : n ≤ 8) (hn0 : 1 ≤ n) (hp : p + n ≤ l.length) (hl : l.length ≤ 1099511627776) (hk : 10 ≤ k) : moraineref04_number.f k l (p : Int) (n : Int) = some (le (seg l p n)) := by
  unfold moraineref04_number.f
  rw [show wrap64 ((n : Int) - 1) = (n : Int) - 1 by unfold wrap64; omega]
  refine number_loop l p n hb hn hp hl n k 0 (Nat.le_refl _) ?_ (by omega)
  rw [Nat.sub_self]
  rfl
theorem refwalked_eq (l : List Int) (k : Nat) (hb : Bytes l) (hl : l.length ≤ 1048576) (hk : 12 + l.length ≤ k) :
    moraineref04_Walked.f k l = some (if l.length < 12 then (0, [], 0) else (le (seg l 0 8), opsOf04 (goneL l), endAt 12 (goneL l))) := by
  unfold moraineref04_Walked.f
  by_cases h12 : l.length < 12
  · rw [if_pos (by omega), if_pos h12]
  · rw [if_neg (by omega), if_neg h12]
    have e8 := refnumber_eq l 0 8 k hb (by omega) (by omega) (by omega) (by omega) (by omega)
    have e4 := refnumber_eq l 8 4 k hb (by omega) (by omega) (by omega) (by omega) (by omega)
    have h4 := seg4_small l hb
    have e8' : moraineref04_number.f k l 0 8 = some (le (seg l 0 8)) := e8
    have e4' : moraineref04_number.f k l 8 4 = some (le (seg l 8 4)) := e4
    have ew : wrap64 (le (seg l 8 4)) = le (seg l 8 4) := by unfold wrap64; omega
    rw [e8', Option.bind_some, e4', Option.bind_some, ew]
    rw [walked_loop l (le (seg l 0 8)) (le (seg l 0 8)) (le (seg l 8 4)) 11 (by omega) hb hl h4.2 (le (seg l 8 4)).toNat 0 k 12 [] (by omega) (by omega) (by simp only [List.length_nil]; omega) (by simp only [Int.reduceToNat]; omega)]
    unfold goneL
    rw [if_neg h12]
    rfl
theorem refdecode_eq (l : List Int) (k : Nat) (hb : Bytes l) (hl : l.length ≤ 1048576) (hk : 12 + l.length ≤ k) : moraineref04_Decode.f k l = some (decB l) := by
  unfold moraineref04_Decode.f decB
  rw [if_neg (by omega), refwalked_eq l k hb hl hk, Option.bind_some]
  by_cases h12 : l.length < 12
  · rw [if_pos h12, if_pos h12]
    simp only []
    rw [if_pos (by decide)]
  · rw [if_neg h12, if_neg h12]
    simp only []
    have hG : goneL l = gos l (le (seg l 0 8)) (le (seg l 8 4)).toNat 0 12 := by unfold goneL; rw [if_neg h12]
    obtain ⟨a, c, e, la, ka, hm⟩ := gos_at l (le (seg l 0 8)) hb (by omega) (le (seg l 8 4)).toNat 0 12 (by omega) (by omega)
    rw [← hG] at e ka hm
    have h4 := seg4_small l hb
    have h8 := seg8_small l hb
    have e4 : moraineref04_number.f k l 8 4 = some (le (seg l 8 4)) := refnumber_eq l 8 4 k hb (by omega) (by omega) (by omega) (by omega) (by omega)
    have ew : wrap64 (le (seg l 8 4)) = le (seg l 8 4) := by unfold wrap64; omega
    have hol := opsOf_len (goneL l)
    rw [lastEnd_eq, ka, encOps_len]
    have hgl := goneL_len l hb (by omega)
    rw [if_neg (by omega)]
    by_cases c1 : 12 + ((totN (opsOf04 (goneL l)) : Nat) : Int) = (l.length : Int)
    · rw [if_pos c1, e4, Option.bind_some, ew]
      by_cases c2 : le (seg l 8 4) = ((opsOf04 (goneL l)).length : Int)
      · rw [if_pos c2]
        by_cases c3 : ((opsOf04 (goneL l)).length : Int) > 4096
        · rw [if_pos c3, if_neg]
          intro q
          have := (chk_ok q.1).2.1
          omega
        · rw [if_neg c3, Fit_eq _ _ h8.1 (by omega), Option.bind_some]
          have hcn : (le (seg l 8 4)).toNat = (opsOf04 (goneL l)).length := by omega
          have hck := chk_of (l := opsOf04 (goneL l)) (by omega) hm (by omega)
          rw [hcn]
          by_cases c4 : fitB (le (seg l 0 8)) (opsOf04 (goneL l)).length = true
          · rw [if_pos c4, if_pos ⟨by rw [hck], by omega, c1, c4⟩]
          · rw [if_neg c4, if_neg (fun q => c4 q.2.2.2)]
      · rw [if_neg c2, if_neg]
        intro q
        exact c2 (by rw [hol]; exact q.2.1.symm)
    · rw [if_neg c1, if_neg (fun q => c1 q.2.2.1)]
/-- what Renumber answers, what Join answers -/
def renR (b : List Int) (seq : Int) : List Int × Int := if (decB b).2.2 = 0 then encR seq (decB b).2.1 else ([], 41)
def joinR (a b : List Int) : List Int × Int := if (decB a).2.2 = 0 then (if (decB b).2.2 = 0 then encR (decB a).1 ((decB a).2.1 ++ (decB b).2.1) else ([], 41)) else ([], 41)
theorem decB_err (b : List Int) (h : ¬ (decB b).2.2 = 0) : (decB b).2.2 = 41 := by rw [decB_bad b h]
theorem decB_len (b : List Int) (hb : Bytes b) (hl : b.length ≤ 1048576) : (decB b).2.1.length ≤ b.length ∧ ∀ x ∈ (decB b).2.1, x.f1.size ≤ 1048576 ∧ x.f2.size ≤ 1048576 := by
  have h := goneL_len b hb (by omega)
  have h2 := (sane_gone b hb hl).2
  unfold decB
  split
  · exact ⟨by simp, fun x hx => by cases hx⟩
  · split
    · exact ⟨by simp only []; rw [opsOf_len]; exact h, h2⟩
    · exact ⟨by simp, fun x hx => by cases hx⟩
theorem decB_seq' (b : List Int) (hb : Bytes b) : 0 ≤ (decB b).1 := by
  have h := (seg8_small b hb).1
  unfold decB
  split
  · exact Int.le_refl _
  · split
    · exact h
    · exact Int.le_refl _
theorem refrenumber_eq (b : List Int) (seq : Int) (k : Nat) (hb : Bytes b) (hl : b.length ≤ 1048576) (h0 : 0 ≤ seq) (hk : 13 + 2 * b.length ≤ k) : moraineref04_Renumber.f k b seq = some (renR b seq) := by
  have hs := decB_len b hb hl
  unfold moraineref04_Renumber.f renR
  rw [refdecode_eq b k hb hl (by omega), Option.bind_some]
  by_cases c : (decB b).2.2 = 0
  · rw [if_pos c, if_pos c, refencode_eq k seq _ h0 ⟨by omega, hs.2⟩ (by omega), Option.bind_some]
  · rw [if_neg c, if_neg c, decB_err b c]
theorem refjoin_eq (a b : List Int) (k : Nat) (ha : Bytes a) (hla : a.length ≤ 1048576) (hb : Bytes b) (hl : a.length + b.length ≤ 1048576) (hk : 13 + 2 * (a.length + b.length) ≤ k) : moraineref04_Join.f k a b = some (joinR a b) := by
  have hsa := decB_len a ha (by omega)
  have hsb := decB_len b hb (by omega)
  unfold moraineref04_Join.f joinR
  rw [refdecode_eq a k ha (by omega) (by omega), Option.bind_some, refdecode_eq b k hb (by omega) (by omega), Option.bind_some]
  by_cases c : (decB a).2.2 = 0
  · rw [if_pos c, if_pos c]
    by_cases d : (decB b).2.2 = 0
    · rw [if_pos d, if_pos d, Option.bind_some]
      rw [if_pos (by simp only [List.length_nil]; omega), Option.bind_some, List.nil_append, if_pos (by omega), refencode_eq k _ _ (decB_seq' a ha) ⟨by rw [List.length_append]; omega, fun x hx => (List.mem_append.1 hx).elim (hsa.2 x) (hsb.2 x)⟩ (by rw [List.length_append]; omega), Option.bind_some]
    · rw [if_neg d, if_neg d]
  · rw [if_neg c, if_neg c]
theorem refhead_eq (l : List Int) (k : Nat) (hb : Bytes l) (hl : l.length ≤ 1048576) (hk : 10 ≤ k) : moraineref04_Head.f k l = some (headR l) := by
  unfold moraineref04_Head.f headR
  by_cases h12 : l.length < 12
  · rw [if_pos (by omega), if_pos h12]
  · have h4 := seg4_small l hb
    have e8 : moraineref04_number.f k l 0 8 = some (le (seg l 0 8)) := refnumber_eq l 0 8 k hb (by omega) (by omega) (by omega) (by omega) (by omega)
    have e4 : moraineref04_number.f k l 8 4 = some (le (seg l 8 4)) := refnumber_eq l 8 4 k hb (by omega) (by omega) (by omega) (by omega) (by omega)
    have ew : wrap64 (le (seg l 8 4)) = le (seg l 8 4) := by unfold wrap64; omega
    rw [if_neg (by omega), if_neg h12, e8, Option.bind_some, e4, Option.bind_some, ew]

end Go.Proofs.Ythkooncibfkepaa.G

/- Printed by the session's program over the kit's print, out of the translation: functions as plain Lean functions, and the proofs that the calls come to them. -/
namespace Go.Proofs.Ythkooncibfkepaa.G
open Go.RowKit Go.Proofs.YthkooncibfkepaaW.PrintWords Go.Proofs.YthkooncibfkepaaW.PrintLast Go.Proofs.YthkooncibfkepaaW.PrintMore
attribute [local go_sem] max2_int min2_int max_two min_two max_three min_three max_four min_four   -- for this text's walks alone
set_option linter.unusedVariables false
set_option linter.unusedSimpArgs false

theorem eqA65 (d : Nat) (w : World) (x0 y0 : Int) (x1 y1 : ByteArray) (x2 y2 : ByteArray) :
    (Op.equalIn (d + 2) 65 (.agg #[.int .i64 x0, .string x1, .string x2]) (.agg #[.int .i64 y0, .string y1, .string y2])).run Try.prog w = .ok (x0 == y0 && (x1.toList == y1.toList && (x2.toList == y2.toList))) w := by
  refine eqA_of Try.underlying65 (by kernel_rfl) ?_
  refine eqf_cons (by rfl) (by go_simp; rfl) (by go_simp; rfl) (by go_simp) ?_
  refine eqf_cons (by rfl) (by go_simp; rfl) (by go_simp; rfl) (by go_simp) ?_
  exact eqf_last (by rfl) (by go_simp; rfl) (by go_simp; rfl) (by go_simp)
end Go.Proofs.Ythkooncibfkepaa.G

/- Printed by the session's program over the kit's print, out of the translation: functions as plain Lean functions, and the proofs that the calls come to them. -/
namespace Go.Proofs.Ythkooncibfkepaa.G
open Go.RowKit Go.Proofs.YthkooncibfkepaaW.PrintWords Go.Proofs.YthkooncibfkepaaW.PrintLast Go.Proofs.YthkooncibfkepaaW.PrintMore
attribute [local go_sem] max2_int min2_int max_two min_two max_three min_three max_four min_four   -- for this text's walks alone
set_option linter.unusedVariables false
set_option linter.unusedSimpArgs false

attribute [local go_sem high] eqA65
/-! ### morainelaw04_same: function 37 -/
def morainelaw04_same.l0 : Nat → List (S65) → List (S65) → Int → Option (Bool)
  | 0, _, _, _ => none
  | k + 1, x0, x1, x5 => if x5 < (x0.length : Int) then (if 0 ≤ x5 then (if x5 < (x1.length : Int) then (if (!(((rd_T65 x0 x5).f0) == ((rd_T65 x1 x5).f0)) || (!((((rd_T65 x0 x5).f1).toList) == (((rd_T65 x1 x5).f1).toList)) || (!((((rd_T65 x0 x5).f2).toList) == (((rd_T65 x1 x5).f2).toList))))) = true then (some false) else (morainelaw04_same.l0 k x0 x1 (wrap64 (x5 + 1)))) else (none)) else (none)) else (some true)
def morainelaw04_same.f (k : Nat) (l0 : List (S65)) (l1 : List (S65)) : Option (Bool) := if (l0.length : Int) = (l1.length : Int) then (morainelaw04_same.l0 k l0 l1 0) else (some false)
theorem morainelaw04_same.mono_l : ∀ k, (∀ y0 y1 y2, LeO (morainelaw04_same.l0 k y0 y1 y2) (morainelaw04_same.l0 (k + 1) y0 y1 y2))
  | 0 => fun _ _ _ r h => by simp [morainelaw04_same.l0] at h
  | k + 1 => by
    have ih0 := morainelaw04_same.mono_l k
    · intro y0 y1 y2
      unfold morainelaw04_same.l0
      repeat' first
      | (with_reducible exact ih0 _ _ _)
      | (with_reducible exact LeO.refl _)
      | (with_reducible exact LeO.none _)
      | (with_reducible refine LeO.ite ?_ ?_)
      | (with_reducible refine LeO.bind ?_ (fun _ => ?_))
      | exact ih0 _ _ _
      | exact LeO.none _
      | refine LeO.ite ?_ ?_
      | refine LeO.bind ?_ (fun _ => ?_)
theorem morainelaw04_same.mono : ∀ a0 a1 k, LeO (morainelaw04_same.f k a0 a1) (morainelaw04_same.f (k + 1) a0 a1) := by
  intro a0 a1 k
  have ih0 := morainelaw04_same.mono_l k
  unfold morainelaw04_same.f
  repeat' first
      | (with_reducible exact ih0 _ _ _)
      | (with_reducible exact LeO.refl _)
      | (with_reducible exact LeO.none _)
      | (with_reducible refine LeO.ite ?_ ?_)
      | (with_reducible refine LeO.bind ?_ (fun _ => ?_))
      | exact ih0 _ _ _
      | exact LeO.none _
      | refine LeO.ite ?_ ?_
      | refine LeO.bind ?_ (fun _ => ?_)
set_option maxHeartbeats 8000000 in
set_option maxRecDepth 100000 in
theorem morainelaw04_same.calls (k : Nat) (A0 : Option Addr) (c0 : Nat) (l0 : List (S65)) (A1 : Option Addr) (c1 : Nat) (l1 : List (S65)) (r : Bool) (w : World) (hr0 : Kd.C k65 w A0 l0.length l0) (hc0 : l0.length ≤ c0) (hr1 : Kd.C k65 w A1 l1.length l1) (hc1 : l1.length ≤ c1) (h : morainelaw04_same.f k l0 l1 = some r) :
    Calls Try.prog 37 #[.slice A0 l0.length c0, .slice A1 l1.length c1] w fun e w' => e = .returned (.bool r) ∧ Drawn0 w w' := by
  have hu65 := Try.underlying65
  have HR0 := Aside0.mk hr0
  have HC0 := Aside0.mk hc0
  clear hr0 hc0
  have HR1 := Aside0.mk hr1
  have HC1 := Aside0.mk hc1
  clear hr1 hc1
  have H : (if (l0.length : Int) = (l1.length : Int) then (morainelaw04_same.l0 k l0 l1 0) else (some false)) = some r := h
  clear h
  by_cases c3 : (l0.length : Int) = (l1.length : Int)
  · rw [if_pos c3] at H
    have c3b0 : ((l0.length : Int) == (l1.length : Int)) = true := beq_iff_eq.mpr c3
    have c3b1 : ((l0.length : Int) != (l1.length : Int)) = false := bne_eq_false_iff_eq.mpr c3
    have c3b2 : (l0.length == l1.length) = true := by first | simpa using c3 | (simp at c3 ⊢; omega)
    clear c3
    have H' := Aside0.mk H
    clear H
    go_enter Try.func37, Try.ntmps37
    go_wp2
    repeat (go_quiet (fail); try go_wp2)
    go_loopg [5] k (fun kq v5 w' => ∃ (x5_1 : Int), v5 = .int .i64 x5_1 ∧ Aside0 (morainelaw04_same.l0 kq l0 l1 x5_1 = some r) ∧ Aside0 (kq ≤ k) ∧ Drawn0 w w')
    case atStart => exact ⟨(0), (by first | rfl | (simp; done) | (simp [*]; done)), H', ⟨Nat.le_refl _⟩, by repeat (first | exact Drawn0.refl _ | apply Drawn0.step)⟩
    case round =>
      clear H'
      try clear c1
      try clear p2
      try clear c3
      try clear c3b0
      try clear c3b1
      try clear c3b2
      obtain ⟨x5_1, rfl, HA, HK1, ⟨m1, rfl⟩⟩ := hrel
      cases gk with
      | zero => exact absurd HA.out (by simp [morainelaw04_same.l0])
      | succ k1 =>
        have H := HA.out
        clear HA
        simp only [morainelaw04_same.l0] at H
        by_cases c4 : x5_1 < (l0.length : Int)
        · rw [if_pos c4] at H
          have c4b0 : decide (x5_1 < (l0.length : Int)) = true := decide_eq_true c4
          clear c4
          by_cases c5 : 0 ≤ x5_1
          · rw [if_pos c5] at H
            have c5b0 : decide (0 ≤ x5_1) = true := decide_eq_true c5
            clear c5
            by_cases c6 : x5_1 < (l1.length : Int)
            · rw [if_pos c6] at H
              have c6b0 : decide (x5_1 < (l1.length : Int)) = true := decide_eq_true c6
              clear c6
              by_cases c7 : (!(((rd_T65 l0 x5_1).f0) == ((rd_T65 l1 x5_1).f0)) || (!((((rd_T65 l0 x5_1).f1).toList) == (((rd_T65 l1 x5_1).f1).toList)) || (!((((rd_T65 l0 x5_1).f2).toList) == (((rd_T65 l1 x5_1).f2).toList))))) = true
              · rw [if_pos c7] at H
                have c7b0 : (!(((rd_T65 l0 x5_1).f0) == ((rd_T65 l1 x5_1).f0)) || (!((((rd_T65 l0 x5_1).f1).toList) == (((rd_T65 l1 x5_1).f1).toList)) || (!((((rd_T65 l0 x5_1).f2).toList) == (((rd_T65 l1 x5_1).f2).toList))))) = true := c7
                clear c7
                obtain rfl := Option.some.inj H
                have p123 : 0 ≤ (x5_1 : Int) := of_decide_eq_true (by first | (with_reducible assumption) | assumption)
                have q123 : x5_1 < (l0.length : Int) := of_decide_eq_true (by first | (with_reducible assumption) | assumption)
                obtain ⟨ad123, e123, hx123_0, hx123_1, hx123_2⟩ := at_T65 HR0.out x5_1 p123 q123
                cases e123
                replace p123 := eq_true p123
                replace q123 := eq_true q123
                have p124 : 0 ≤ (x5_1 : Int) := of_decide_eq_true (by first | (with_reducible assumption) | assumption)
                have q124 : x5_1 < (l1.length : Int) := of_decide_eq_true (by first | (with_reducible assumption) | assumption)
                obtain ⟨ad124, e124, hx124_0, hx124_1, hx124_2⟩ := at_T65 HR1.out x5_1 p124 q124
                cases e124
                replace p124 := eq_true p124
                replace q124 := eq_true q124
                go_wp2
                repeat (go_quiet (fail); try go_wp2)
                go_ret
                exact ⟨by first | rfl | (simp; done) | (simp [*]; done), by repeat (first | exact Drawn0.refl _ | apply Drawn0.step)⟩
              · rw [if_neg c7] at H
                have c7b0 : (!(((rd_T65 l0 x5_1).f0) == ((rd_T65 l1 x5_1).f0)) || (!((((rd_T65 l0 x5_1).f1).toList) == (((rd_T65 l1 x5_1).f1).toList)) || (!((((rd_T65 l0 x5_1).f2).toList) == (((rd_T65 l1 x5_1).f2).toList))))) = false := by simpa using c7
                clear c7
                have H' := Aside0.mk H
                clear H
                have p123 : 0 ≤ (x5_1 : Int) := of_decide_eq_true (by first | (with_reducible assumption) | assumption)
                have q123 : x5_1 < (l0.length : Int) := of_decide_eq_true (by first | (with_reducible assumption) | assumption)
                obtain ⟨ad123, e123, hx123_0, hx123_1, hx123_2⟩ := at_T65 HR0.out x5_1 p123 q123
                cases e123
                replace p123 := eq_true p123
                replace q123 := eq_true q123
                have p124 : 0 ≤ (x5_1 : Int) := of_decide_eq_true (by first | (with_reducible assumption) | assumption)
                have q124 : x5_1 < (l1.length : Int) := of_decide_eq_true (by first | (with_reducible assumption) | assumption)
                obtain ⟨ad124, e124, hx124_0, hx124_1, hx124_2⟩ := at_T65 HR1.out x5_1 p124 q124
                cases e124
                replace p124 := eq_true p124
                replace q124 := eq_true q124
                go_wp2
                repeat (go_quiet (fail); try go_wp2)
                go_roundg k1
                case measure => have := HK1.out; omega
                case rel => exact ⟨(wrap64 (x5_1 + 1)), (by first | rfl | (simp; done) | (simp [*]; done)), H', ⟨by have := HK1.out; omega⟩, by repeat (first | exact Drawn0.refl _ | apply Drawn0.step)⟩
            · rw [if_neg c6] at H
              exact absurd H (by simp)
          · rw [if_neg c5] at H
            exact absurd H (by simp)
        · rw [if_neg c4] at H
          have c4b0 : decide (x5_1 < (l0.length : Int)) = false := decide_eq_false c4
          clear c4
          obtain rfl := Option.some.inj H
          go_wp2
          repeat (go_quiet (fail); try go_wp2)
          go_ret
          exact ⟨by first | rfl | (simp; done) | (simp [*]; done), by repeat (first | exact Drawn0.refl _ | apply Drawn0.step)⟩
  · rw [if_neg c3] at H
    have c3b0 : ((l0.length : Int) == (l1.length : Int)) = false := beq_eq_false_iff_ne.mpr c3
    have c3b1 : ((l0.length : Int) != (l1.length : Int)) = true := bne_iff_ne.mpr c3
    have c3b2 : (l0.length == l1.length) = false := by first | simpa using c3 | (simp at c3 ⊢; omega)
    obtain rfl := Option.some.inj H
    go_enter Try.func37, Try.ntmps37
    go_wp2
    repeat (go_quiet (fail); try go_wp2)
    go_ret
    exact ⟨by first | rfl | (simp; done) | (simp [*]; done), by repeat (first | exact Drawn0.refl _ | apply Drawn0.step)⟩

end Go.Proofs.Ythkooncibfkepaa.G

/- Contracts typed by hand: morainelaw04.copied: operations in memory of their own, one behind their end -/
namespace Go.Proofs.Ythkooncibfkepaa.G
open Go.RowKit Go.Proofs.YthkooncibfkepaaW.PrintWords Go.Proofs.YthkooncibfkepaaW.PrintLast Go.Proofs.YthkooncibfkepaaW.PrintMore
attribute [local go_sem] max2_int min2_int max_two min_two max_three min_three max_four min_four
set_option linter.unusedVariables false
set_option linter.unusedSimpArgs false

/-! morainelaw04.copied: operations in memory of their own, one behind their end -/
def mark04 : S65 := ⟨77, ⟨#[]⟩, ⟨#[]⟩⟩
theorem mark04_len (l : List S65) : (l ++ [mark04]).length = l.length + 1 := by simp
set_option maxHeartbeats 4000000 in
theorem morainelaw04_copied.calls (A0 : Option Addr) (c0 : Nat) (l0 : List S65) (w : World) (hr0 : Kd.C k65 w A0 l0.length l0) (hl : l0.length ≤ 2097152) :
    Calls Try.prog 15 #[.slice A0 l0.length c0] w fun e w' => ∃ (A : Option Addr) (c : Nat), e = .returned (.slice A l0.length c) ∧ Kd.R k65 65 w' w.heap.size (fun _ => True) (.slice A (l0.length + 1) c) (l0 ++ [mark04]) ∧ Below w.heap.size w w' := by
  have hu := Try.underlying65
  have HR := Aside0.mk hr0
  clear hr0
  have HL := Aside0.mk hl
  have HB := Aside0.mk (Below.refl w.heap.size w)
  go_enter Try.func15, Try.ntmps15
  go_wp2_with (first | ((with_reducible refine gate_dst (N := 3) rfl ?_); refine Kd.R_lit k65 _ 65 ?hg (N := 3) ?hd (xs := ([] : List S65)) (inner := []) (ok := fun _ => True) (okp := fun _ => True) ?hr ?hp (fun _ hk => hk) trivial (Below.refl _ _) (Nat.le_refl _) (by simp) ?_; (case hd => rfl); (case hg => rfl); (case hr => first | (go_simp; done) | (go_simp; rfl)); (case hp => exact (Reps.none _ _)); intro v102 w6 ho7 hb hg_ hnew_; clear hg_ hnew_; have HO1 := Aside0.mk ho7; have HB1 := Aside0.mk hb; clear hb ho7) | ((with_reducible refine gate_builtin (b := .append) (xs := #[.tmp 3, .tmp 4]) rfl ?_); at_builtin; refine Kd.R_append_rows k65 (w0 := w) w.heap.size rfl (.tmp 3) (.tmp 4) 22 65 (.agg #[(.int .i64 0), (.string ⟨#[]⟩), (.string ⟨#[]⟩)]) 40 rfl Try.underlying22 info65 rfl (by decide) (by omega) v102 [] l0 _ _ _ (fun _ => True) (fun _ => False) rfl rfl ?aO ?aR (fun _ _ h => h) (fun _ h => h.elim) (fun _ _ => trivial) ?aB ?aS ?aL ?_; (case aR => exact (Kd.C_below HR.out HB1.out)); (case aB => exact HB1.out); (case aO => exact HO1.out); (case aS => exact HB1.out.size); (case aL => have := HL.out; simp; omega); intro v105 w8 ho hb hg hat; have HO2 := Aside0.mk ho; have HB2 := Aside0.mk hb; clear ho hb hg hat) | ((with_reducible refine gate_builtin (b := .append) (xs := #[.tmp 5, .tmp 7]) rfl ?_); at_builtin; refine Kd.R_append k65 (w0 := w) w.heap.size rfl (.tmp 5) (.tmp 7) 22 65 (.agg #[(.int .i64 0), (.string ⟨#[]⟩), (.string ⟨#[]⟩)]) 40 rfl Try.underlying22 info65 rfl (by decide) (by omega) v105 ([] ++ l0) mark04 [.int .i64 77, .string (⟨#[]⟩ : ByteArray), .string (⟨#[]⟩ : ByteArray)] (fun _ => True) (fun _ => False) rfl rfl ?aP (fun _ hk => hk.elim) (fun _ _ => trivial) ?aO ?aB ?aS ?aL ?_; (case aP => exact k65_mkM _ _ _ mark04); (case aB => exact HB2.out); (case aO => exact HO2.out); (case aS => exact HB2.out.size); (case aL => have := HL.out; simp; omega); intro v108 w9 ho hb hg hat; have ho2 : Kd.R k65 65 w9 w.heap.size (fun _ => True) v108 (l0 ++ [mark04]) := ho; have HB3 := Aside0.mk hb; clear ho hb hg hat; obtain ⟨Ao10, co10, eo10⟩ := Kd.R_slice ho2; subst eo10; rw [mark04_len] at ho2; have HO3 := Aside0.mk ho2; have hcc : l0.length + 1 ≤ co10 := (Kd.R_reads' ho2).2.1; clear ho2; obtain ⟨i011, hi011, _, hsz11, _⟩ := info_parts info65; rw [mark04_len]; have hcut11 := cut_to (P := Try.prog) 22 65 .i64 Try.underlying22 hi011 Ao10 (l0.length + 1) co10 (l0.length : Int) (by omega) (by omega) hcc; rw [Int.toNat_natCast] at hcut11; clear hi011 hsz11))
  go_ret
  exact ⟨_, _, rfl, HO3.out, HB3.out⟩

end Go.Proofs.Ythkooncibfkepaa.G

/- Contracts typed by hand: morainelaw04.stay: such a copy stands as it was -/
namespace Go.Proofs.Ythkooncibfkepaa.G
open Go.RowKit Go.Proofs.YthkooncibfkepaaW.PrintWords Go.Proofs.YthkooncibfkepaaW.PrintLast Go.Proofs.YthkooncibfkepaaW.PrintMore
attribute [local go_sem] max2_int min2_int max_two min_two max_three min_three max_four min_four
set_option linter.unusedVariables false
set_option linter.unusedSimpArgs false

/-! morainelaw04.stay: such a copy stands as it was -/
theorem same_loop (l : List S65) (hl : l.length ≤ 1099511627776) : ∀ (d i k : Nat), i + d = l.length → morainelaw04_same.l0 (k + d + 1) l l (i : Int) = some true
  | 0, i, k, hi => by rw [morainelaw04_same.l0, if_neg (by omega)]
  | d + 1, i, k, hi => by
    have c0 : (i : Int) < (l.length : Int) := by omega
    have c1 : 0 ≤ (i : Int) := Int.natCast_nonneg _
    have e5 : wrap64 ((i : Int) + 1) = ((i + 1 : Nat) : Int) := by unfold wrap64; omega
    rw [show k + (d + 1) + 1 = (k + d + 1) + 1 by omega, morainelaw04_same.l0, if_pos c0, if_pos c1, if_pos c0, if_neg (by simp), e5]
    exact same_loop l hl d (i + 1) k (by omega)
theorem same_self (l : List S65) (hl : l.length ≤ 1099511627776) : morainelaw04_same.f (l.length + 1) l l = some true := by
  unfold morainelaw04_same.f
  rw [if_pos rfl]
  have := same_loop l hl l.length 0 0 (by omega)
  rw [Nat.zero_add] at this
  exact this
theorem C_prefix65 {w : World} {A : Option Addr} {xs ys : List S65} (h : Kd.C k65 w A (xs.length + ys.length) (xs ++ ys)) : Kd.C k65 w A xs.length xs := by
  rw [← List.length_append] at h
  have h1 := Kd.C_take (m := xs.length) h (by simp)
  rwa [List.take_left] at h1
theorem mark_rd (l : List S65) : rd_T65 (l ++ [mark04]) (l.length : Int) = mark04 := by simp [rd_T65, List.getD_eq_getElem?_getD]
set_option maxHeartbeats 4000000 in
set_option maxRecDepth 100000 in
theorem morainelaw04_stay.calls (A0 : Option Addr) (c0 : Nat) (l0 : List S65) (A1 : Option Addr) (c1 : Nat) (w : World) (hr0 : Kd.C k65 w A0 (l0.length + 1) (l0 ++ [mark04])) (hc0 : l0.length + 1 ≤ c0) (hr1 : Kd.C k65 w A1 l0.length l0) (hc1 : l0.length ≤ c1) (hl : l0.length ≤ 2097152) :
    Calls Try.prog 20 #[.slice A0 l0.length c0, .slice A1 l0.length c1] w fun e w' => e = .returned (.bool true) ∧ Drawn0 w w' := by
  have hu := Try.underlying65
  have HR0 := Aside0.mk (C_prefix65 (ys := [mark04]) hr0)
  have HR1 := Aside0.mk hr1
  have HC1 := Aside0.mk hc1
  have HS := Aside0.mk (same_self l0 (by omega))
  obtain ⟨ad, e1, h0, h1, h2⟩ := at_T65 hr0 (l0.length : Int) (by omega) (by omega)
  rw [mark_rd, Int.toNat_natCast] at h0 h1 h2
  cases e1
  have g0 : w.cell? (ad.add (l0.length * 3)) = some (.int .i64 77) := h0
  have g1 : w.cell? ⟨(ad.add (l0.length * 3)).block, (ad.add (l0.length * 3)).off + 1, none⟩ = some (.string (⟨#[]⟩ : ByteArray)) := h1
  have g2 : w.cell? ⟨(ad.add (l0.length * 3)).block, (ad.add (l0.length * 3)).off + 2, none⟩ = some (.string (⟨#[]⟩ : ByteArray)) := h2
  clear h0 h1 h2 hr0 hr1 hc1
  have HC0 := Aside0.mk (show l0.length ≤ c0 by omega)
  go_enter Try.func20, Try.ntmps20
  go_wp2_with (first | (go_at_call 37; (with_reducible refine (morainelaw04_same.calls _ _ _ l0 _ _ l0 true _ HR0.out HC0.out HR1.out HC1.out HS.out).mono ?_); rintro e w1 ⟨rfl, ⟨n, rfl⟩⟩))
  go_ret
  exact ⟨by simp, ⟨⟨n, rfl⟩⟩⟩

end Go.Proofs.Ythkooncibfkepaa.G

/- Contracts typed by hand: an argument that can be read is of its kind: from the form's reading to the words of the walks -/
namespace Go.Proofs.Ythkooncibfkepaa.G
open Go.RowKit Go.Proofs.YthkooncibfkepaaW.PrintWords Go.Proofs.YthkooncibfkepaaW.PrintLast Go.Proofs.YthkooncibfkepaaW.PrintMore
attribute [local go_sem] max2_int min2_int max_two min_two max_three min_three max_four min_four
set_option linter.unusedVariables false
set_option linter.unusedSimpArgs false

/-! an argument that can be read is of its kind: from the form's reading to the words of the walks -/
open Go.ChangeShapes Go.WideShapes Go.Deep
structure Opens (P : Program) (t : TypeId) {α : Type} (d : Kd α) (good : α → Prop) (bulk : α → Nat) : Prop where
  sz : P.cellsOf t = d.sz
  one : ∀ x, 1 ≤ bulk x
  go : ∀ {H : Type} {enc : TypeId × Value → H} {w : World} {base : Nat} {spare : Nat → Bool} {held : Bool} {fuel : Nat} {cs : List Value} {x : DataW H × List MemPlace}, DataW.trod enc P w base spare held fuel t cs = some x → ∃ a : α, d.K w a cs ∧ good a ∧ bulk a ≤ Rows.uptoBulk x.1
theorem opens_int {P : Program} {t : TypeId} {k : IntKind} (h : P.underlying t = some (.int k)) (hc : P.cellsOf t = 1) : Opens P t (Kd.int k) (fun n => (Lit.int k n).wf = true) (fun _ => 1) where
  sz := hc
  one := fun _ => Nat.le_refl 1
  go := by
    intro H enc w base spare held fuel cs x hx
    obtain ⟨n, rfl, rfl, hw⟩ := DataW.trod_int h hx
    exact ⟨n, rfl, hw, by simp [Rows.uptoBulk]⟩
theorem opens_bool {P : Program} {t : TypeId} (h : P.underlying t = some .bool) (hc : P.cellsOf t = 1) : Opens P t Kd.bool (fun _ => True) (fun _ => 1) where
  sz := hc
  one := fun _ => Nat.le_refl 1
  go := by
    intro H enc w base spare held fuel cs x hx
    obtain ⟨n, rfl, rfl⟩ := DataW.trod_bool h hx
    exact ⟨n, rfl, trivial, by simp [Rows.uptoBulk]⟩
theorem opens_string {P : Program} {t : TypeId} (h : P.underlying t = some .string) (hc : P.cellsOf t = 1) : Opens P t Kd.string (fun s => s.size ≤ maxLen) (fun s => s.size + 1) where
  sz := hc
  one := fun s => Nat.le_add_left 1 s.size
  go := by
    intro H enc w base spare held fuel cs x hx
    obtain ⟨s, rfl, rfl, hw⟩ := DataW.trod_string h hx
    exact ⟨s, rfl, hw, by simp [Rows.uptoBulk]⟩
def sumBulk {α : Type} (bulk : α → Nat) (l : List α) : Nat := (l.map bulk).sum
theorem sumBulk_nil {α : Type} (bulk : α → Nat) : sumBulk bulk [] = 0 := rfl
theorem sumBulk_cons {α : Type} (bulk : α → Nat) (x : α) (l : List α) : sumBulk bulk (x :: l) = bulk x + sumBulk bulk l := by simp [sumBulk]
theorem sumBulk_append {α : Type} (bulk : α → Nat) (l r : List α) : sumBulk bulk (l ++ r) = sumBulk bulk l + sumBulk bulk r := by simp [sumBulk, List.sum_append]
theorem sumBulk_mem {α : Type} (bulk : α → Nat) {x : α} {l : List α} (h : x ∈ l) : bulk x ≤ sumBulk bulk l := by
  induction l with
  | nil => cases h
  | cons y r ih =>
    rw [sumBulk_cons]
    rcases List.mem_cons.1 h with rfl | h
    · omega
    · have := ih h; omega
theorem sumBulk_len {α : Type} (bulk : α → Nat) (h1 : ∀ x, 1 ≤ bulk x) (l : List α) : l.length ≤ sumBulk bulk l := by
  induction l with
  | nil => exact Nat.zero_le _
  | cons y r ih => rw [sumBulk_cons, List.length_cons]; have := h1 y; omega
theorem list_of {α : Type} {Q : Nat → α → Prop} : ∀ (n : Nat), (∀ i, i < n → ∃ y, Q i y) → ∃ l : List α, l.length = n ∧ ∀ i y, l[i]? = some y → Q i y
  | 0, _ => ⟨[], rfl, fun i y h => by simp at h⟩
  | n + 1, h => by
    obtain ⟨l, hl, hq⟩ := list_of n (fun i hi => h i (by omega))
    obtain ⟨y, hy⟩ := h n (by omega)
    refine ⟨l ++ [y], by simp [hl], fun i z hz => ?_⟩
    rcases Nat.lt_trichotomy i n with hi | hi | hi
    · rw [List.getElem?_append_left (by omega)] at hz
      exact hq i z hz
    · subst hi
      rw [List.getElem?_append_right (by omega), hl] at hz
      simp at hz
      subst hz
      exact hy
    · rw [List.getElem?_eq_none (by simp [hl]; omega)] at hz
      cases hz
theorem bulkAll_append {H : Type} (l r : List (DataW H)) : Rows.uptoBulkAll (l ++ r) = Rows.uptoBulkAll l + Rows.uptoBulkAll r := by
  induction l with
  | nil => simp [Rows.uptoBulkAll]
  | cons x l ih => simp only [List.cons_append, Rows.uptoBulkAll, ih]; omega
theorem bulkAll_map {H : Type} {α : Type} (bulk : α → Nat) (D : Nat → DataW H) : ∀ (n : Nat) (l : List α), l.length = n → (∀ i y, l[i]? = some y → bulk y ≤ Rows.uptoBulk (D i)) → sumBulk bulk l ≤ Rows.uptoBulkAll ((List.range n).map D)
  | 0, l, hl, _ => by
    have : l = [] := List.length_eq_zero_iff.1 hl
    subst this
    simp [sumBulk]
  | n + 1, l, hl, h => by
    have hne : l ≠ [] := by
      intro e
      rw [e] at hl
      simp at hl
    obtain ⟨l0, y0, rfl⟩ : ∃ l0 y0, l = l0 ++ [y0] := ⟨l.dropLast, l.getLast hne, (List.dropLast_concat_getLast hne).symm⟩
    have hd : l0.length = n := by simpa using hl
    have ih := bulkAll_map bulk D n l0 hd (fun i y hy => h i y (by
      have hi : i < l0.length := (List.getElem?_eq_some_iff.1 hy).1
      rw [List.getElem?_append_left hi]
      exact hy))
    have hn := h n y0 (by
      rw [List.getElem?_append_right (by omega), hd]
      simp)
    rw [List.range_succ, List.map_append, bulkAll_append, sumBulk_append]
    simp only [List.map_cons, List.map_nil, sumBulk_cons, sumBulk_nil, Rows.uptoBulkAll]
    omega
theorem opens_slice {P : Program} {t e : TypeId} {α : Type} {d : Kd α} {good : α → Prop} {bulk : α → Nat} (h : P.underlying t = some (.slice e)) (hc : P.cellsOf t = 1) (he : Opens P e d good bulk) : Opens P t (Kd.slice e d) (fun l => ∀ x ∈ l, good x) (fun l => sumBulk bulk l + 1) where
  sz := hc
  one := fun l => Nat.le_add_left 1 _
  go := by
    intro H enc w base spare held fuel cs x hx
    rcases open_slice h hx with ⟨rfl, rfl⟩ | ⟨a, len, cap, m, n, D, Pl, rfl, hb, hl, hm, hmm, rfl, hi⟩
    · exact ⟨[], ⟨none, 0, rfl, Nat.le_refl _, Kd.C_nil _ _⟩, by simp, by simp [sumBulk, Rows.uptoBulk]⟩
    · have hlm : len ≤ m := by
        rw [hmm]
        split
        · exact hl
        · exact Nat.le_refl _
      obtain ⟨l, hll, hq⟩ := list_of (Q := fun i y => ∃ cs', w.cells? base (a.add (i * P.cellsOf e)) (P.cellsOf e) = some cs' ∧ d.K w y cs' ∧ good y ∧ bulk y ≤ Rows.uptoBulk (D i)) len (fun i hlt => by
        obtain ⟨cs', hcs, ht⟩ := hi i (by omega)
        obtain ⟨y, h1, h2, h3⟩ := he.go ht
        exact ⟨y, cs', hcs, h1, h2, h3⟩)
      subst hll
      refine ⟨l, ⟨some a, cap, rfl, hl, rfl, by unfold maxLen at hm; omega, fun _ => ⟨a, rfl, fun j p hj => ?_⟩⟩, fun x hx => ?_, ?_⟩
      · obtain ⟨cs', hcs, hk, _, _⟩ := hq j p hj
        obtain ⟨_, hlen, hat⟩ := World.cells?_some hcs
        rw [he.sz] at hlen hat
        refine ⟨cs', hlen, hk, fun i u hu => ?_⟩
        have hil : i < cs'.length := (List.getElem?_eq_some_iff.1 hu).1
        have := hat i (by omega)
        rw [Go.Deep.add_add] at this
        rw [this, hu]
      · obtain ⟨i, hi2⟩ := List.getElem?_of_mem hx
        obtain ⟨_, _, _, hg, _⟩ := hq i x hi2
        exact hg
      · have hbk := bulkAll_map bulk D l.length l rfl (fun i y hy => by
          obtain ⟨_, _, _, _, h5⟩ := hq i y hy
          exact h5)
        simp only [Rows.uptoBulk]
        omega
theorem opens_struct2 {P : Program} {t : TypeId} {f0 f1 : Field} {α β : Type} {d0 : Kd α} {d1 : Kd β} {g0 : α → Prop} {g1 : β → Prop} {b0 : α → Nat} {b1 : β → Nat} (ht : P.underlying t = some (.struct #[f0, f1])) (hc : P.cellsOf t = d0.sz + d1.sz)
    (ho0 : f0.offset = 0) (ho1 : f1.offset = d0.sz) (h0 : Opens P f0.type d0 g0 b0) (h1 : Opens P f1.type d1 g1 b1) : Opens P t (Kd.pair d0 d1) (fun x => g0 x.1 ∧ g1 x.2) (fun x => b0 x.1 + b1 x.2 + 1) where
  sz := hc
  one := fun l => Nat.le_add_left 1 _
  go := by
    intro H enc w base spare held fuel cs x hx
    obtain ⟨y0, y1, n, rfl, hl, e0, e1⟩ := trod_struct2 ht hx
    obtain ⟨a, k0, q0, p0⟩ := h0.go e0
    obtain ⟨b, k1, q1, p1⟩ := h1.go e1
    rw [ho0, h0.sz] at k0
    rw [ho1, h1.sz] at k1
    refine ⟨(a, b), ⟨_, _, ?_, k0, k1⟩, ⟨q0, q1⟩, ?_⟩
    · rw [List.drop_zero]
      have hd : (cs.drop d0.sz).take d1.sz = cs.drop d0.sz := List.take_of_length_le (by rw [List.length_drop]; omega)
      rw [hd, List.take_append_drop]
    · simp only [Rows.uptoBulk, Rows.uptoBulkAll]
      omega
theorem opens_struct3 {P : Program} {t : TypeId} {f0 f1 f2 : Field} {α β γ : Type} {d0 : Kd α} {d1 : Kd β} {d2 : Kd γ} {g0 : α → Prop} {g1 : β → Prop} {g2 : γ → Prop} {b0 : α → Nat} {b1 : β → Nat} {b2 : γ → Nat} (ht : P.underlying t = some (.struct #[f0, f1, f2])) (hc : P.cellsOf t = d0.sz + (d1.sz + d2.sz))
    (ho0 : f0.offset = 0) (ho1 : f1.offset = d0.sz) (ho2 : f2.offset = d0.sz + d1.sz) (h0 : Opens P f0.type d0 g0 b0) (h1 : Opens P f1.type d1 g1 b1) (h2 : Opens P f2.type d2 g2 b2) : Opens P t (Kd.pair d0 (Kd.pair d1 d2)) (fun x => g0 x.1 ∧ g1 x.2.1 ∧ g2 x.2.2) (fun x => b0 x.1 + b1 x.2.1 + b2 x.2.2 + 1) where
  sz := hc
  one := fun l => Nat.le_add_left 1 _
  go := by
    intro H enc w base spare held fuel cs x hx
    obtain ⟨y0, y1, y2, n, rfl, hl, e0, e1, e2⟩ := trod_struct3 ht hx
    obtain ⟨a, k0, q0, p0⟩ := h0.go e0
    obtain ⟨b, k1, q1, p1⟩ := h1.go e1
    obtain ⟨c, k2, q2, p2⟩ := h2.go e2
    rw [ho0, h0.sz] at k0
    rw [ho1, h1.sz] at k1
    rw [ho2, h2.sz] at k2
    refine ⟨(a, b, c), ⟨_, _, ?_, k0, _, _, rfl, k1, k2⟩, ⟨q0, q1, q2⟩, ?_⟩
    · rw [List.drop_zero]
      have hd : (cs.drop (d0.sz + d1.sz)).take d2.sz = cs.drop (d0.sz + d1.sz) := List.take_of_length_le (by rw [List.length_drop]; omega)
      rw [hd, ← List.drop_drop, List.take_append_drop, List.take_append_drop]
    · simp only [Rows.uptoBulk, Rows.uptoBulkAll]
      omega
theorem seg_join {α : Type} (cs : List α) (o n : Nat) : (cs.drop o).take n ++ cs.drop (o + n) = cs.drop o := by
  rw [← List.drop_drop, List.take_append_drop]
theorem opens_struct4 {P : Program} {t : TypeId} {f0 f1 f2 f3 : Field} {α0 α1 α2 α3 : Type} {d0 : Kd α0} {d1 : Kd α1} {d2 : Kd α2} {d3 : Kd α3} {g0 : α0 → Prop} {g1 : α1 → Prop} {g2 : α2 → Prop} {g3 : α3 → Prop} {b0 : α0 → Nat} {b1 : α1 → Nat} {b2 : α2 → Nat} {b3 : α3 → Nat} (ht : P.underlying t = some (.struct #[f0, f1, f2, f3])) (hc : P.cellsOf t = (d0.sz + (d1.sz + (d2.sz + d3.sz))))
    (ho0 : f0.offset = 0) (ho1 : f1.offset = d0.sz) (ho2 : f2.offset = d0.sz + d1.sz) (ho3 : f3.offset = d0.sz + d1.sz + d2.sz) (h0 : Opens P f0.type d0 g0 b0) (h1 : Opens P f1.type d1 g1 b1) (h2 : Opens P f2.type d2 g2 b2) (h3 : Opens P f3.type d3 g3 b3) : Opens P t (Kd.pair d0 (Kd.pair d1 (Kd.pair d2 d3))) (fun x => g0 x.1 ∧ g1 x.2.1 ∧ g2 x.2.2.1 ∧ g3 x.2.2.2) (fun x => b0 x.1 + b1 x.2.1 + b2 x.2.2.1 + b3 x.2.2.2 + 1) where
  sz := hc
  one := fun l => Nat.le_add_left 1 _
  go := by
    intro H enc w base spare held fuel cs x hx
    obtain ⟨xs, n, _, rfl, hl, hlen, hf⟩ := DataW.trod_struct ht hx
    match xs, hlen with
    | [y0, y1, y2, y3], _ =>
      obtain ⟨a0, k0, q0, p0⟩ := h0.go (show DataW.trod enc P w base spare held n f0.type ((cs.drop f0.offset).take (P.cellsOf f0.type)) = some y0 from by simpa using hf 0 f0 rfl)
      rw [ho0, h0.sz] at k0
      obtain ⟨a1, k1, q1, p1⟩ := h1.go (show DataW.trod enc P w base spare held n f1.type ((cs.drop f1.offset).take (P.cellsOf f1.type)) = some y1 from by simpa using hf 1 f1 rfl)
      rw [ho1, h1.sz] at k1
      obtain ⟨a2, k2, q2, p2⟩ := h2.go (show DataW.trod enc P w base spare held n f2.type ((cs.drop f2.offset).take (P.cellsOf f2.type)) = some y2 from by simpa using hf 2 f2 rfl)
      rw [ho2, h2.sz] at k2
      obtain ⟨a3, k3, q3, p3⟩ := h3.go (show DataW.trod enc P w base spare held n f3.type ((cs.drop f3.offset).take (P.cellsOf f3.type)) = some y3 from by simpa using hf 3 f3 rfl)
      rw [ho3, h3.sz] at k3
      refine ⟨(a0, a1, a2, a3), ⟨_, _, ?_, k0, _, _, rfl, k1, _, _, rfl, k2, k3⟩, ⟨q0, q1, q2, q3⟩, ?_⟩
      · rw [List.drop_zero]
        have hd : (cs.drop (d0.sz + d1.sz + d2.sz)).take d3.sz = cs.drop (d0.sz + d1.sz + d2.sz) := List.take_of_length_le (by rw [List.length_drop]; omega)
        rw [hd, seg_join, seg_join, List.take_append_drop]
      · simp only [List.map_cons, List.map_nil, Rows.uptoBulk, Rows.uptoBulkAll]
        omega
theorem opens_struct5 {P : Program} {t : TypeId} {f0 f1 f2 f3 f4 : Field} {α0 α1 α2 α3 α4 : Type} {d0 : Kd α0} {d1 : Kd α1} {d2 : Kd α2} {d3 : Kd α3} {d4 : Kd α4} {g0 : α0 → Prop} {g1 : α1 → Prop} {g2 : α2 → Prop} {g3 : α3 → Prop} {g4 : α4 → Prop} {b0 : α0 → Nat} {b1 : α1 → Nat} {b2 : α2 → Nat} {b3 : α3 → Nat} {b4 : α4 → Nat} (ht : P.underlying t = some (.struct #[f0, f1, f2, f3, f4])) (hc : P.cellsOf t = (d0.sz + (d1.sz + (d2.sz + (d3.sz + d4.sz)))))
    (ho0 : f0.offset = 0) (ho1 : f1.offset = d0.sz) (ho2 : f2.offset = d0.sz + d1.sz) (ho3 : f3.offset = d0.sz + d1.sz + d2.sz) (ho4 : f4.offset = d0.sz + d1.sz + d2.sz + d3.sz) (h0 : Opens P f0.type d0 g0 b0) (h1 : Opens P f1.type d1 g1 b1) (h2 : Opens P f2.type d2 g2 b2) (h3 : Opens P f3.type d3 g3 b3) (h4 : Opens P f4.type d4 g4 b4) : Opens P t (Kd.pair d0 (Kd.pair d1 (Kd.pair d2 (Kd.pair d3 d4)))) (fun x => g0 x.1 ∧ g1 x.2.1 ∧ g2 x.2.2.1 ∧ g3 x.2.2.2.1 ∧ g4 x.2.2.2.2) (fun x => b0 x.1 + b1 x.2.1 + b2 x.2.2.1 + b3 x.2.2.2.1 + b4 x.2.2.2.2 + 1) where
  sz := hc
  one := fun l => Nat.le_add_left 1 _
  go := by
    intro H enc w base spare held fuel cs x hx
    obtain ⟨xs, n, _, rfl, hl, hlen, hf⟩ := DataW.trod_struct ht hx
    match xs, hlen with
    | [y0, y1, y2, y3, y4], _ =>
      obtain ⟨a0, k0, q0, p0⟩ := h0.go (show DataW.trod enc P w base spare held n f0.type ((cs.drop f0.offset).take (P.cellsOf f0.type)) = some y0 from by simpa using hf 0 f0 rfl)
      rw [ho0, h0.sz] at k0
      obtain ⟨a1, k1, q1, p1⟩ := h1.go (show DataW.trod enc P w base spare held n f1.type ((cs.drop f1.offset).take (P.cellsOf f1.type)) = some y1 from by simpa using hf 1 f1 rfl)
      rw [ho1, h1.sz] at k1
      obtain ⟨a2, k2, q2, p2⟩ := h2.go (show DataW.trod enc P w base spare held n f2.type ((cs.drop f2.offset).take (P.cellsOf f2.type)) = some y2 from by simpa using hf 2 f2 rfl)
      rw [ho2, h2.sz] at k2
      obtain ⟨a3, k3, q3, p3⟩ := h3.go (show DataW.trod enc P w base spare held n f3.type ((cs.drop f3.offset).take (P.cellsOf f3.type)) = some y3 from by simpa using hf 3 f3 rfl)
      rw [ho3, h3.sz] at k3
      obtain ⟨a4, k4, q4, p4⟩ := h4.go (show DataW.trod enc P w base spare held n f4.type ((cs.drop f4.offset).take (P.cellsOf f4.type)) = some y4 from by simpa using hf 4 f4 rfl)
      rw [ho4, h4.sz] at k4
      refine ⟨(a0, a1, a2, a3, a4), ⟨_, _, ?_, k0, _, _, rfl, k1, _, _, rfl, k2, _, _, rfl, k3, k4⟩, ⟨q0, q1, q2, q3, q4⟩, ?_⟩
      · rw [List.drop_zero]
        have hd : (cs.drop (d0.sz + d1.sz + d2.sz + d3.sz)).take d4.sz = cs.drop (d0.sz + d1.sz + d2.sz + d3.sz) := List.take_of_length_le (by rw [List.length_drop]; omega)
        rw [hd, seg_join, seg_join, seg_join, List.take_append_drop]
      · simp only [List.map_cons, List.map_nil, Rows.uptoBulk, Rows.uptoBulkAll]
        omega
theorem opens_struct6 {P : Program} {t : TypeId} {f0 f1 f2 f3 f4 f5 : Field} {α0 α1 α2 α3 α4 α5 : Type} {d0 : Kd α0} {d1 : Kd α1} {d2 : Kd α2} {d3 : Kd α3} {d4 : Kd α4} {d5 : Kd α5} {g0 : α0 → Prop} {g1 : α1 → Prop} {g2 : α2 → Prop} {g3 : α3 → Prop} {g4 : α4 → Prop} {g5 : α5 → Prop} {b0 : α0 → Nat} {b1 : α1 → Nat} {b2 : α2 → Nat} {b3 : α3 → Nat} {b4 : α4 → Nat} {b5 : α5 → Nat} (ht : P.underlying t = some (.struct #[f0, f1, f2, f3, f4, f5])) (hc : P.cellsOf t = (d0.sz + (d1.sz + (d2.sz + (d3.sz + (d4.sz + d5.sz))))))
    (ho0 : f0.offset = 0) (ho1 : f1.offset = d0.sz) (ho2 : f2.offset = d0.sz + d1.sz) (ho3 : f3.offset = d0.sz + d1.sz + d2.sz) (ho4 : f4.offset = d0.sz + d1.sz + d2.sz + d3.sz) (ho5 : f5.offset = d0.sz + d1.sz + d2.sz + d3.sz + d4.sz) (h0 : Opens P f0.type d0 g0 b0) (h1 : Opens P f1.type d1 g1 b1) (h2 : Opens P f2.type d2 g2 b2) (h3 : Opens P f3.type d3 g3 b3) (h4 : Opens P f4.type d4 g4 b4) (h5 : Opens P f5.type d5 g5 b5) : Opens P t (Kd.pair d0 (Kd.pair d1 (Kd.pair d2 (Kd.pair d3 (Kd.pair d4 d5))))) (fun x => g0 x.1 ∧ g1 x.2.1 ∧ g2 x.2.2.1 ∧ g3 x.2.2.2.1 ∧ g4 x.2.2.2.2.1 ∧ g5 x.2.2.2.2.2) (fun x => b0 x.1 + b1 x.2.1 + b2 x.2.2.1 + b3 x.2.2.2.1 + b4 x.2.2.2.2.1 + b5 x.2.2.2.2.2 + 1) where
  sz := hc
  one := fun l => Nat.le_add_left 1 _
  go := by
    intro H enc w base spare held fuel cs x hx
    obtain ⟨xs, n, _, rfl, hl, hlen, hf⟩ := DataW.trod_struct ht hx
    match xs, hlen with
    | [y0, y1, y2, y3, y4, y5], _ =>
      obtain ⟨a0, k0, q0, p0⟩ := h0.go (show DataW.trod enc P w base spare held n f0.type ((cs.drop f0.offset).take (P.cellsOf f0.type)) = some y0 from by simpa using hf 0 f0 rfl)
      rw [ho0, h0.sz] at k0
      obtain ⟨a1, k1, q1, p1⟩ := h1.go (show DataW.trod enc P w base spare held n f1.type ((cs.drop f1.offset).take (P.cellsOf f1.type)) = some y1 from by simpa using hf 1 f1 rfl)
      rw [ho1, h1.sz] at k1
      obtain ⟨a2, k2, q2, p2⟩ := h2.go (show DataW.trod enc P w base spare held n f2.type ((cs.drop f2.offset).take (P.cellsOf f2.type)) = some y2 from by simpa using hf 2 f2 rfl)
      rw [ho2, h2.sz] at k2
      obtain ⟨a3, k3, q3, p3⟩ := h3.go (show DataW.trod enc P w base spare held n f3.type ((cs.drop f3.offset).take (P.cellsOf f3.type)) = some y3 from by simpa using hf 3 f3 rfl)
      rw [ho3, h3.sz] at k3
      obtain ⟨a4, k4, q4, p4⟩ := h4.go (show DataW.trod enc P w base spare held n f4.type ((cs.drop f4.offset).take (P.cellsOf f4.type)) = some y4 from by simpa using hf 4 f4 rfl)
      rw [ho4, h4.sz] at k4
      obtain ⟨a5, k5, q5, p5⟩ := h5.go (show DataW.trod enc P w base spare held n f5.type ((cs.drop f5.offset).take (P.cellsOf f5.type)) = some y5 from by simpa using hf 5 f5 rfl)
      rw [ho5, h5.sz] at k5
      refine ⟨(a0, a1, a2, a3, a4, a5), ⟨_, _, ?_, k0, _, _, rfl, k1, _, _, rfl, k2, _, _, rfl, k3, _, _, rfl, k4, k5⟩, ⟨q0, q1, q2, q3, q4, q5⟩, ?_⟩
      · rw [List.drop_zero]
        have hd : (cs.drop (d0.sz + d1.sz + d2.sz + d3.sz + d4.sz)).take d5.sz = cs.drop (d0.sz + d1.sz + d2.sz + d3.sz + d4.sz) := List.take_of_length_le (by rw [List.length_drop]; omega)
        rw [hd, seg_join, seg_join, seg_join, seg_join, List.take_append_drop]
      · simp only [List.map_cons, List.map_nil, Rows.uptoBulk, Rows.uptoBulkAll]
        omega
theorem opens_struct7 {P : Program} {t : TypeId} {f0 f1 f2 f3 f4 f5 f6 : Field} {α0 α1 α2 α3 α4 α5 α6 : Type} {d0 : Kd α0} {d1 : Kd α1} {d2 : Kd α2} {d3 : Kd α3} {d4 : Kd α4} {d5 : Kd α5} {d6 : Kd α6} {g0 : α0 → Prop} {g1 : α1 → Prop} {g2 : α2 → Prop} {g3 : α3 → Prop} {g4 : α4 → Prop} {g5 : α5 → Prop} {g6 : α6 → Prop} {b0 : α0 → Nat} {b1 : α1 → Nat} {b2 : α2 → Nat} {b3 : α3 → Nat} {b4 : α4 → Nat} {b5 : α5 → Nat} {b6 : α6 → Nat} (ht : P.underlying t = some (.struct #[f0, f1, f2, f3, f4, f5, f6])) (hc : P.cellsOf t = (d0.sz + (d1.sz + (d2.sz + (d3.sz + (d4.sz + (d5.sz + d6.sz)))))))
    (ho0 : f0.offset = 0) (ho1 : f1.offset = d0.sz) (ho2 : f2.offset = d0.sz + d1.sz) (ho3 : f3.offset = d0.sz + d1.sz + d2.sz) (ho4 : f4.offset = d0.sz + d1.sz + d2.sz + d3.sz) (ho5 : f5.offset = d0.sz + d1.sz + d2.sz + d3.sz + d4.sz) (ho6 : f6.offset = d0.sz + d1.sz + d2.sz + d3.sz + d4.sz + d5.sz) (h0 : Opens P f0.type d0 g0 b0) (h1 : Opens P f1.type d1 g1 b1) (h2 : Opens P f2.type d2 g2 b2) (h3 : Opens P f3.type d3 g3 b3) (h4 : Opens P f4.type d4 g4 b4) (h5 : Opens P f5.type d5 g5 b5) (h6 : Opens P f6.type d6 g6 b6) : Opens P t (Kd.pair d0 (Kd.pair d1 (Kd.pair d2 (Kd.pair d3 (Kd.pair d4 (Kd.pair d5 d6)))))) (fun x => g0 x.1 ∧ g1 x.2.1 ∧ g2 x.2.2.1 ∧ g3 x.2.2.2.1 ∧ g4 x.2.2.2.2.1 ∧ g5 x.2.2.2.2.2.1 ∧ g6 x.2.2.2.2.2.2) (fun x => b0 x.1 + b1 x.2.1 + b2 x.2.2.1 + b3 x.2.2.2.1 + b4 x.2.2.2.2.1 + b5 x.2.2.2.2.2.1 + b6 x.2.2.2.2.2.2 + 1) where
  sz := hc
  one := fun l => Nat.le_add_left 1 _
  go := by
    intro H enc w base spare held fuel cs x hx
    obtain ⟨xs, n, _, rfl, hl, hlen, hf⟩ := DataW.trod_struct ht hx
    match xs, hlen with
    | [y0, y1, y2, y3, y4, y5, y6], _ =>
      obtain ⟨a0, k0, q0, p0⟩ := h0.go (show DataW.trod enc P w base spare held n f0.type ((cs.drop f0.offset).take (P.cellsOf f0.type)) = some y0 from by simpa using hf 0 f0 rfl)
      rw [ho0, h0.sz] at k0
      obtain ⟨a1, k1, q1, p1⟩ := h1.go (show DataW.trod enc P w base spare held n f1.type ((cs.drop f1.offset).take (P.cellsOf f1.type)) = some y1 from by simpa using hf 1 f1 rfl)
      rw [ho1, h1.sz] at k1
      obtain ⟨a2, k2, q2, p2⟩ := h2.go (show DataW.trod enc P w base spare held n f2.type ((cs.drop f2.offset).take (P.cellsOf f2.type)) = some y2 from by simpa using hf 2 f2 rfl)
      rw [ho2, h2.sz] at k2
      obtain ⟨a3, k3, q3, p3⟩ := h3.go (show DataW.trod enc P w base spare held n f3.type ((cs.drop f3.offset).take (P.cellsOf f3.type)) = some y3 from by simpa using hf 3 f3 rfl)
      rw [ho3, h3.sz] at k3
      obtain ⟨a4, k4, q4, p4⟩ := h4.go (show DataW.trod enc P w base spare held n f4.type ((cs.drop f4.offset).take (P.cellsOf f4.type)) = some y4 from by simpa using hf 4 f4 rfl)
      rw [ho4, h4.sz] at k4
      obtain ⟨a5, k5, q5, p5⟩ := h5.go (show DataW.trod enc P w base spare held n f5.type ((cs.drop f5.offset).take (P.cellsOf f5.type)) = some y5 from by simpa using hf 5 f5 rfl)
      rw [ho5, h5.sz] at k5
      obtain ⟨a6, k6, q6, p6⟩ := h6.go (show DataW.trod enc P w base spare held n f6.type ((cs.drop f6.offset).take (P.cellsOf f6.type)) = some y6 from by simpa using hf 6 f6 rfl)
      rw [ho6, h6.sz] at k6
      refine ⟨(a0, a1, a2, a3, a4, a5, a6), ⟨_, _, ?_, k0, _, _, rfl, k1, _, _, rfl, k2, _, _, rfl, k3, _, _, rfl, k4, _, _, rfl, k5, k6⟩, ⟨q0, q1, q2, q3, q4, q5, q6⟩, ?_⟩
      · rw [List.drop_zero]
        have hd : (cs.drop (d0.sz + d1.sz + d2.sz + d3.sz + d4.sz + d5.sz)).take d6.sz = cs.drop (d0.sz + d1.sz + d2.sz + d3.sz + d4.sz + d5.sz) := List.take_of_length_le (by rw [List.length_drop]; omega)
        rw [hd, seg_join, seg_join, seg_join, seg_join, seg_join, List.take_append_drop]
      · simp only [List.map_cons, List.map_nil, Rows.uptoBulk, Rows.uptoBulkAll]
        omega
/-- a kind that is told by a structure of its own -/
theorem opens_iso {P : Program} {t : TypeId} {α β : Type} {d : Kd α} {good : α → Prop} {bulk : α → Nat} (h : Opens P t d good bulk) (f : β → α) (g : α → β) (hfg : ∀ a, f (g a) = a) : Opens P t (Kd.iso d f) (fun x => good (f x)) (fun x => bulk (f x)) where
  sz := h.sz
  one := fun x => h.one (f x)
  go := by
    intro H enc w base spare held fuel cs x hx
    obtain ⟨a, k, q, p⟩ := h.go hx
    refine ⟨g a, ?_, ?_, ?_⟩
    · show d.K w (f (g a)) cs
      rw [hfg]; exact k
    · rw [hfg]; exact q
    · rw [hfg]; exact p
/-- an argument's bulk, of the whole's -/
theorem bulk_bound {H : Type} {ds : List (DataW H)} (hk : Rows.uptoSmall H ds = true) : Rows.uptoBulkAll ds ≤ 1048576 := of_decide_eq_true hk

end Go.Proofs.Ythkooncibfkepaa.G

/- Printed by the session's program over the kit's print, out of the translation: functions as plain Lean functions, and the proofs that the calls come to them. -/
namespace Go.Proofs.Ythkooncibfkepaa.G
open Go.RowKit Go.Proofs.YthkooncibfkepaaW.PrintWords Go.Proofs.YthkooncibfkepaaW.PrintLast Go.Proofs.YthkooncibfkepaaW.PrintMore
attribute [local go_sem] max2_int min2_int max_two min_two max_three min_three max_four min_four   -- for this text's walks alone
set_option linter.unusedVariables false
set_option linter.unusedSimpArgs false

/-! ### morainelaw04_names: function 14 -/
def morainelaw04_names.f  : Option (Bool) := some true
set_option maxHeartbeats 8000000 in
set_option maxRecDepth 100000 in
theorem morainelaw04_names.calls  (r : Bool) (w : World) (h : morainelaw04_names.f  = some r) :
    Calls Try.prog 14 #[] w fun e w' => e = .returned (.bool r) ∧ Drawn0 w w' := by
  have H : (some true) = some r := h
  clear h
  obtain rfl := Option.some.inj H
  go_enter Try.func14, Try.ntmps14
  go_wp2
  go_ret
  exact ⟨by first | rfl | (simp; done) | (simp [*]; done), by repeat (first | exact Drawn0.refl _ | apply Drawn0.step)⟩

end Go.Proofs.Ythkooncibfkepaa.G

/- Contracts typed by hand: the law BatchChecks: its walk -/
namespace Go.Proofs.Ythkooncibfkepaa.G
open Go.RowKit Go.Proofs.YthkooncibfkepaaW.PrintWords Go.Proofs.YthkooncibfkepaaW.PrintLast Go.Proofs.YthkooncibfkepaaW.PrintMore
attribute [local go_sem] max2_int min2_int max_two min_two max_three min_three max_four min_four
set_option linter.unusedVariables false
set_option linter.unusedSimpArgs false

/-! the law BatchChecks: its walk -/
theorem copied_out {A : Option Addr} {c : Nat} {l : List S65} {w : World} {b : Nat} {ok : Nat → Prop} (h : Kd.R k65 65 w b ok (.slice A (l.length + 1) c) (l ++ [mark04])) : Kd.C k65 w A (l.length + 1) (l ++ [mark04]) ∧ l.length + 1 ≤ c := by
  have := Kd.R_reads' h
  rw [mark04_len] at this
  exact ⟨this.2.2, this.2.1⟩
set_option maxHeartbeats 4000000 in
set_option maxRecDepth 100000 in
theorem BatchChecks_calls (k : Nat) (A0 : Option Addr) (c0 : Nat) (l0 : List S65) (w : World) (hc0 : l0.length ≤ c0) (hr0 : Kd.C k65 w A0 l0.length l0) (hl : l0.length ≤ 2097152) (r1 r2 s1 s2 : Int)
    (h1 : batch_Check.f k l0 = some (r1, r2)) (h2 : moraineref04_Check.f k l0 = some (r1, r2)) (h3 : batch_Size.f k l0 = some (s1, s2)) (h4 : moraineref04_Size.f k l0 = some (s1, s2)) :
    Calls Try.prog 3 #[.slice A0 l0.length c0] w fun e w' => e = .returned (.bool true) ∧ Below w.heap.size w w' := by
  have HR0 := Aside0.mk hr0
  have HC0 := Aside0.mk hc0
  have HL := Aside0.mk hl
  have H1 := Aside0.mk h1
  have H2 := Aside0.mk h2
  have H3 := Aside0.mk h3
  have H4 := Aside0.mk h4
  clear hc0 hr0 hl h1 h2 h3 h4
  go_enter Try.func3, Try.ntmps3
  go_wp2_with fail
  (with_reducible refine (morainelaw04_names.calls true _ rfl).mono ?_)
  rintro e w1 ⟨rfl, hd⟩
  have HB1 := Aside0.mk hd.below
  clear hd
  go_wp2_with fail
  (with_reducible refine (morainelaw04_copied.calls A0 c0 l0 _ (Kd.C_below HR0.out HB1.out) HL.out).mono ?_)
  rintro e w2 ⟨A2, c2, rfl, ho, hb⟩
  have HB2 := Aside0.mk (below_step HB1.out hb)
  have HO2 := Aside0.mk (copied_out ho)
  have HP2 := Aside0.mk (C_prefix65 (ys := [mark04]) (copied_out ho).1)
  have HC2 := Aside0.mk (show l0.length ≤ c2 by have := (copied_out ho).2; omega)
  clear hb ho
  go_wp2_with fail
  (with_reducible refine (batch_Check.calls k A2 c2 l0 _ _ _ HP2.out HC2.out H1.out).mono ?_)
  rintro e w3 ⟨rfl, hb⟩
  have HB3 := Aside0.mk (below_step HB2.out hb)
  have HN3 := Aside0.mk hb
  clear hb
  go_wp2_with fail
  (with_reducible refine (moraineref04_Check.calls k A0 c0 l0 _ _ _ (Kd.C_below HR0.out HB3.out) HC0.out H2.out).mono ?_)
  rintro e w4 ⟨rfl, hb⟩
  have HB4 := Aside0.mk (below_step HB3.out hb)
  have HN4 := Aside0.mk (below_step HN3.out hb)
  clear hb
  go_wp2_with fail
  (with_reducible refine (batch_Size.calls k A2 c2 l0 _ _ _ (Kd.C_below HP2.out HN4.out) HC2.out H3.out).mono ?_)
  rintro e w5 ⟨rfl, hb⟩
  have HB5 := Aside0.mk (below_step HB4.out hb)
  have HN5 := Aside0.mk (below_step HN4.out hb)
  clear hb
  go_wp2_with fail
  (with_reducible refine (moraineref04_Size.calls k A0 c0 l0 _ _ _ (Kd.C_below HR0.out HB5.out) HC0.out H4.out).mono ?_)
  rintro e w6 ⟨rfl, hb⟩
  have HB6 := Aside0.mk (below_step HB5.out hb)
  have HN6 := Aside0.mk (below_step HN5.out hb)
  clear hb
  go_wp2_with fail
  (with_reducible refine (morainelaw04_stay.calls A2 c2 l0 A0 c0 _ (Kd.C_below HO2.out.1 HN6.out) HO2.out.2 (Kd.C_below HR0.out HB6.out) HC0.out HL.out).mono ?_)
  rintro e w7 ⟨rfl, hd⟩
  have HB7 := Aside0.mk (below_step HB6.out hd.below)
  clear hd
  go_wp2
  go_ret
  exact ⟨by simp, HB7.out⟩
theorem sane_of_bulk {l : List S65} (h : sumBulk (fun x : S65 => 1 + (x.f1.size + 1) + (x.f2.size + 1) + 1) l ≤ 1048576) : Sane l := by
  refine ⟨Nat.le_trans (sumBulk_len _ (fun x => by omega) l) h, fun x hx => ?_⟩
  have := sumBulk_mem (fun x : S65 => 1 + (x.f1.size + 1) + (x.f2.size + 1) + 1) hx
  (try simp only [] at this)
  omega
theorem BatchChecks_upto (w : World) (A0 : Option Addr) (c0 : Nat) (l0 : List S65) (hc0 : l0.length ≤ c0) (hr0 : Kd.C k65 w A0 l0.length l0) (hg0 : ∀ x ∈ l0, (Lit.int .i64 x.f0).wf = true ∧ x.f1.size ≤ maxLen ∧ x.f2.size ≤ maxLen)
    (hbulk : (sumBulk (fun x : S65 => 1 + (x.f1.size + 1) + (x.f2.size + 1) + 1) l0 + 1) ≤ 1048576) :
    Calls Try.prog 3 #[.slice A0 l0.length c0] w fun e w' => e = .returned (.bool true) ∧ Below w.heap.size w w' := by
  have hs := sane_of_bulk (l := l0) (by omega)
  have hl := hs.1
  exact BatchChecks_calls (13 + 2 * l0.length) A0 c0 l0 w hc0 hr0 (by omega) _ _ _ _ (check_eq _ l0 hs (by omega)) (refcheck_eq _ l0 hs (by omega)) (batchsize_eq _ l0 hs (by omega)) (refSize_eq _ l0 hs (by omega))

end Go.Proofs.Ythkooncibfkepaa.G

/- Printed by the session's program over the kit's print, out of the translation: functions as plain Lean functions, and the proofs that the calls come to them. -/
namespace Go.Proofs.Ythkooncibfkepaa.G
open Go.RowKit Go.Proofs.YthkooncibfkepaaW.PrintWords Go.Proofs.YthkooncibfkepaaW.PrintLast Go.Proofs.YthkooncibfkepaaW.PrintMore
attribute [local go_sem] max2_int min2_int max_two min_two max_three min_three max_four min_four   -- for this text's walks alone
set_option linter.unusedVariables false
set_option linter.unusedSimpArgs false

/-! ### morainelaw04_works: function 39 -/
def morainelaw04_works.f (k : Nat)  : Option (Bool) := (batch_Encode.f k 1 (([(⟨1, (⟨#[107]⟩ : ByteArray), (⟨#[118]⟩ : ByteArray)⟩ : S65), (⟨0, (⟨#[100]⟩ : ByteArray), (⟨#[]⟩ : ByteArray)⟩ : S65)] : List (S65)))).bind fun bt294 => (if bt294.2 = 0 then (some ((strOfNums bt294.1).toList == ([1, 0, 0, 0, 0, 0, 0, 0, 2, 0, 0, 0, 1, 1, 107, 1, 118, 0, 1, 100] : List UInt8))) else (some false))
theorem morainelaw04_works.mono : ∀ k, LeO (morainelaw04_works.f k ) (morainelaw04_works.f (k + 1) ) := by
  intro  k
  unfold morainelaw04_works.f
  repeat' first
      | (with_reducible exact batch_Encode.mono _ _ _)
      | (with_reducible exact LeO.refl _)
      | (with_reducible exact LeO.none _)
      | (with_reducible refine LeO.ite ?_ ?_)
      | (with_reducible refine LeO.bind ?_ (fun _ => ?_))
      | exact batch_Encode.mono _ _ _
      | exact LeO.none _
      | refine LeO.ite ?_ ?_
      | refine LeO.bind ?_ (fun _ => ?_)
set_option maxHeartbeats 8000000 in
set_option maxRecDepth 100000 in
theorem morainelaw04_works.calls (k : Nat)  (r : Bool) (w : World) (h : morainelaw04_works.f k  = some r) :
    Calls Try.prog 39 #[] w fun e w' => e = .returned (.bool r) ∧ Below w.heap.size w w' := by
  have hu65 := Try.underlying65
  have HB := Aside0.mk (Below.refl w.heap.size w)
  have H : ((batch_Encode.f k 1 (([(⟨1, (⟨#[107]⟩ : ByteArray), (⟨#[118]⟩ : ByteArray)⟩ : S65), (⟨0, (⟨#[100]⟩ : ByteArray), (⟨#[]⟩ : ByteArray)⟩ : S65)] : List (S65)))).bind fun bt294 => (if bt294.2 = 0 then (some ((strOfNums bt294.1).toList == ([1, 0, 0, 0, 0, 0, 0, 0, 2, 0, 0, 0, 1, 1, 107, 1, 118, 0, 1, 100] : List UInt8))) else (some false))) = some r := h
  clear h
  obtain ⟨y291, hy291⟩ : ∃ y_ : List (S65), y_ = (([(⟨1, (⟨#[107]⟩ : ByteArray), (⟨#[118]⟩ : ByteArray)⟩ : S65), (⟨0, (⟨#[100]⟩ : ByteArray), (⟨#[]⟩ : ByteArray)⟩ : S65)] : List (S65))) := ⟨_, rfl⟩
  replace H : ((batch_Encode.f k 1 y291).bind fun bt294 => (if bt294.2 = 0 then (some ((strOfNums bt294.1).toList == ([1, 0, 0, 0, 0, 0, 0, 0, 2, 0, 0, 0, 1, 1, 107, 1, 118, 0, 1, 100] : List UInt8))) else (some false))) = some r := by first | (rw [hy291]; with_reducible exact H) | (have H2_ := (Option.bind_some _ _).symm.trans H; rw [hy291]; with_reducible exact H2_) | (have H2_ := (Option.bind_some _ _).symm.trans H; with_reducible exact H2_) | with_reducible exact H | (rw [hy291]; exact H) | exact H
  have Ny291 := Aside0.mk hy291
  clear hy291
  replace H := Option.bind_eq_some_iff.mp H
  obtain ⟨⟨t294, t295⟩, A10, H⟩ := H
  replace H : (if t295 = 0 then (some ((strOfNums t294).toList == ([1, 0, 0, 0, 0, 0, 0, 0, 2, 0, 0, 0, 1, 1, 107, 1, 118, 0, 1, 100] : List UInt8))) else (some false)) = some r := H
  have A1 := Aside0.mk A10
  clear A10
  by_cases c2 : t295 = 0
  · rw [if_pos c2] at H
    have c2b0 : (t295 == 0) = true := beq_iff_eq.mpr c2
    have c2b1 : (t295 != 0) = false := bne_eq_false_iff_eq.mpr c2
    clear c2
    obtain rfl := Option.some.inj H
    go_enter Try.func39, Try.ntmps39
    go_wp2_with (first | ((with_reducible refine gate_dst (N := 6) rfl ?_); refine Kd.R_lit k65 _ 65 ?hg (N := 6) ?hd (xs := ([(⟨1, (⟨#[107]⟩ : ByteArray), (⟨#[118]⟩ : ByteArray)⟩ : S65), (⟨0, (⟨#[100]⟩ : ByteArray), (⟨#[]⟩ : ByteArray)⟩ : S65)] : List (S65))) (inner := [.int .i64 1, .string (⟨#[107]⟩ : ByteArray), .string (⟨#[118]⟩ : ByteArray), .int .i64 0, .string (⟨#[100]⟩ : ByteArray), .string (⟨#[]⟩ : ByteArray)]) (ok := fun _ => True) (okp := fun _ => True) ?hr ?hp (fun _ hk => hk) trivial (Below.refl _ _) (Nat.le_refl _) (by simp) ?_; (case hd => rfl); (case hg => rfl); (case hr => first | (go_simp; done) | (go_simp; rfl)); (case hp => exact (Reps.c3 (show Kd.M k65 _ _ _ (⟨1, (⟨#[107]⟩ : ByteArray), (⟨#[118]⟩ : ByteArray)⟩ : S65) [.int .i64 1, .string (⟨#[107]⟩ : ByteArray), .string (⟨#[118]⟩ : ByteArray)] from (k65_mkM _ _ _ (⟨1, (⟨#[107]⟩ : ByteArray), (⟨#[118]⟩ : ByteArray)⟩ : S65) )) (Reps.c3 (show Kd.M k65 _ _ _ (⟨0, (⟨#[100]⟩ : ByteArray), (⟨#[]⟩ : ByteArray)⟩ : S65) [.int .i64 0, .string (⟨#[100]⟩ : ByteArray), .string (⟨#[]⟩ : ByteArray)] from (k65_mkM _ _ _ (⟨0, (⟨#[100]⟩ : ByteArray), (⟨#[]⟩ : ByteArray)⟩ : S65) )) (Reps.none _ _)))); intro v292 w3 ho4 hb hg_ hnew_; clear hg_ hnew_; (first | rw [← Ny291.out] at ho4 | (simp only [Int.reduceToNat] at ho4; rw [← Ny291.out] at ho4)); have n0_ := Aside0.mk (Kd.R_lower ho4 (below_size (by repeat (first | (with_reducible first | exact HB.out | apply below_alloc | apply pw_below_drewN | apply below_drew1) | exact HB.out)))); have n1_ := Aside0.mk (below_step (by repeat (first | (with_reducible first | exact HB.out | apply below_alloc | apply pw_below_drewN | apply below_drew1) | exact HB.out)) hb); clear HB; have HO293 := n0_; have HB := n1_; clear n0_ n1_; clear hb ho4; obtain ⟨Ao5, co5, eo5⟩ := Kd.R_slice HO293.out; subst eo5) | ((with_reducible refine gate_callee (f := 21) rfl ?_); refine goesL_ (some 7) rfl rfl Try.func21 (by kernel_rfl) rfl #[.int .u64 1, .slice Ao5 y291.length co5] rfl (by (try simp only [List.map_toArray, List.map_cons, List.map_nil]); first | done | rfl | (simp only [List.length_drop, List.length_take]; rfl)) ?_; (with_reducible refine (batch_Encode.calls k 1 _ _ y291 t294 t295 _ ?side1 ?side2 A1.out).mono ?_); (case side1 => repeat (first | exact (Kd.R_reads' HO293.out).2.2 | (with_reducible refine Kd.C_alloc ?_ _) | (with_reducible refine Kd.C_drewN ?_ _) | (with_reducible refine Kd.C_drew ?_))); (case side2 => exact (Kd.R_reads' HO293.out).2.1); rintro e w6 ⟨v296, rfl, ho0, hb⟩; refine ⟨_, rfl, ?_⟩; have n0_ := Aside0.mk (Kd.R_below (by (with_reducible repeat (first | apply Kd.R_alloc | apply Kd.R_drewN | apply Kd.R_drew)); exact HO293.out) hb); have n1_ := Aside0.mk (Kd.R_lower ho0 (below_size (by repeat (first | (with_reducible first | exact HB.out | apply below_alloc | apply pw_below_drewN | apply below_drew1) | exact HB.out)))); have n2_ := Aside0.mk (below_step (by repeat (first | (with_reducible first | exact HB.out | apply below_alloc | apply pw_below_drewN | apply below_drew1) | exact HB.out)) hb); clear HO293; clear HB; have HO293 := n0_; have HO297 := n1_; have HB := n2_; clear n0_ n1_ n2_; (try clear hb); (try clear hb2); (try clear hk); (try clear hi); (try clear ho0); have hcv7 := own_string (P := Try.prog) Try.underlying33 Try.underlying5 Try.underlying9 (Kd.own_of_R HO297.out)))
    go_ret
    exact ⟨by first | rfl | (simp [errW_none, errW_some] <;> rfl) | (simp [*, errW_none, errW_some] <;> rfl), by repeat (first | (with_reducible first | exact HB.out | apply below_alloc | apply pw_below_drewN | apply below_drew1) | exact HB.out)⟩
  · rw [if_neg c2] at H
    have c2b0 : (t295 == 0) = false := beq_eq_false_iff_ne.mpr c2
    have c2b1 : (t295 != 0) = true := bne_iff_ne.mpr c2
    obtain rfl := Option.some.inj H
    go_enter Try.func39, Try.ntmps39
    go_wp2_with (first | ((with_reducible refine gate_dst (N := 6) rfl ?_); refine Kd.R_lit k65 _ 65 ?hg (N := 6) ?hd (xs := ([(⟨1, (⟨#[107]⟩ : ByteArray), (⟨#[118]⟩ : ByteArray)⟩ : S65), (⟨0, (⟨#[100]⟩ : ByteArray), (⟨#[]⟩ : ByteArray)⟩ : S65)] : List (S65))) (inner := [.int .i64 1, .string (⟨#[107]⟩ : ByteArray), .string (⟨#[118]⟩ : ByteArray), .int .i64 0, .string (⟨#[100]⟩ : ByteArray), .string (⟨#[]⟩ : ByteArray)]) (ok := fun _ => True) (okp := fun _ => True) ?hr ?hp (fun _ hk => hk) trivial (Below.refl _ _) (Nat.le_refl _) (by simp) ?_; (case hd => rfl); (case hg => rfl); (case hr => first | (go_simp; done) | (go_simp; rfl)); (case hp => exact (Reps.c3 (show Kd.M k65 _ _ _ (⟨1, (⟨#[107]⟩ : ByteArray), (⟨#[118]⟩ : ByteArray)⟩ : S65) [.int .i64 1, .string (⟨#[107]⟩ : ByteArray), .string (⟨#[118]⟩ : ByteArray)] from (k65_mkM _ _ _ (⟨1, (⟨#[107]⟩ : ByteArray), (⟨#[118]⟩ : ByteArray)⟩ : S65) )) (Reps.c3 (show Kd.M k65 _ _ _ (⟨0, (⟨#[100]⟩ : ByteArray), (⟨#[]⟩ : ByteArray)⟩ : S65) [.int .i64 0, .string (⟨#[100]⟩ : ByteArray), .string (⟨#[]⟩ : ByteArray)] from (k65_mkM _ _ _ (⟨0, (⟨#[100]⟩ : ByteArray), (⟨#[]⟩ : ByteArray)⟩ : S65) )) (Reps.none _ _)))); intro v292 w8 ho9 hb hg_ hnew_; clear hg_ hnew_; (first | rw [← Ny291.out] at ho9 | (simp only [Int.reduceToNat] at ho9; rw [← Ny291.out] at ho9)); have n0_ := Aside0.mk (Kd.R_lower ho9 (below_size (by repeat (first | (with_reducible first | exact HB.out | apply below_alloc | apply pw_below_drewN | apply below_drew1) | exact HB.out)))); have n1_ := Aside0.mk (below_step (by repeat (first | (with_reducible first | exact HB.out | apply below_alloc | apply pw_below_drewN | apply below_drew1) | exact HB.out)) hb); clear HB; have HO293 := n0_; have HB := n1_; clear n0_ n1_; clear hb ho9; obtain ⟨Ao10, co10, eo10⟩ := Kd.R_slice HO293.out; subst eo10) | ((with_reducible refine gate_callee (f := 21) rfl ?_); refine goesL_ (some 7) rfl rfl Try.func21 (by kernel_rfl) rfl #[.int .u64 1, .slice Ao10 y291.length co10] rfl (by (try simp only [List.map_toArray, List.map_cons, List.map_nil]); first | done | rfl | (simp only [List.length_drop, List.length_take]; rfl)) ?_; (with_reducible refine (batch_Encode.calls k 1 _ _ y291 t294 t295 _ ?side1 ?side2 A1.out).mono ?_); (case side1 => repeat (first | exact (Kd.R_reads' HO293.out).2.2 | (with_reducible refine Kd.C_alloc ?_ _) | (with_reducible refine Kd.C_drewN ?_ _) | (with_reducible refine Kd.C_drew ?_))); (case side2 => exact (Kd.R_reads' HO293.out).2.1); rintro e w11 ⟨v296, rfl, ho0, hb⟩; refine ⟨_, rfl, ?_⟩; have n0_ := Aside0.mk (Kd.R_below (by (with_reducible repeat (first | apply Kd.R_alloc | apply Kd.R_drewN | apply Kd.R_drew)); exact HO293.out) hb); have n1_ := Aside0.mk (Kd.R_lower ho0 (below_size (by repeat (first | (with_reducible first | exact HB.out | apply below_alloc | apply pw_below_drewN | apply below_drew1) | exact HB.out)))); have n2_ := Aside0.mk (below_step (by repeat (first | (with_reducible first | exact HB.out | apply below_alloc | apply pw_below_drewN | apply below_drew1) | exact HB.out)) hb); clear HO293; clear HB; have HO293 := n0_; have HO297 := n1_; have HB := n2_; clear n0_ n1_ n2_; (try clear hb); (try clear hb2); (try clear hk); (try clear hi); (try clear ho0)))
    go_ret
    exact ⟨by first | rfl | (simp [errW_none, errW_some] <;> rfl) | (simp [*, errW_none, errW_some] <;> rfl), by repeat (first | (with_reducible first | exact HB.out | apply below_alloc | apply pw_below_drewN | apply below_drew1) | exact HB.out)⟩

end Go.Proofs.Ythkooncibfkepaa.G

/- Contracts typed by hand: the law BatchBack: its walk -/
namespace Go.Proofs.Ythkooncibfkepaa.G
open Go.RowKit Go.Proofs.YthkooncibfkepaaW.PrintWords Go.Proofs.YthkooncibfkepaaW.PrintLast Go.Proofs.YthkooncibfkepaaW.PrintMore
attribute [local go_sem] max2_int min2_int max_two min_two max_three min_three max_four min_four
set_option linter.unusedVariables false
set_option linter.unusedSimpArgs false

/-! the law BatchBack: its walk -/
theorem works_true (k : Nat) (hk : 13 ≤ k) : morainelaw04_works.f k = some true := by
  unfold morainelaw04_works.f
  rw [encode_eq k 1 _ (by decide) ⟨by decide, fun x hx => by simp at hx; rcases hx with rfl | rfl <;> exact ⟨by decide, by decide⟩⟩ (by simpa using hk)]
  have h : encR 1 [(⟨1, (⟨#[107]⟩ : ByteArray), (⟨#[118]⟩ : ByteArray)⟩ : S65), (⟨0, (⟨#[100]⟩ : ByteArray), (⟨#[]⟩ : ByteArray)⟩ : S65)] = ([1, 0, 0, 0, 0, 0, 0, 0, 2, 0, 0, 0, 1, 1, 107, 1, 118, 0, 1, 100], 0) := by decide +kernel
  rw [h, Option.bind_some]
  simp only [if_true]
  decide +kernel
theorem batch_Decode_calls' (A : Option Addr) (c : Nat) (b : List Int) (r : Int × List Op04 × Int) (w : World) (hr0 : Kd.C (Kd.int .u8) w A b.length b) (hc : b.length ≤ c) (hb : Bytes b) (hlen : b.length ≤ 1048576) (h : decB b = r) :
    Calls Try.prog 33 #[.slice A b.length c] w fun e w' => ∃ v0_ : Value, e = .returned (.tuple #[.int .u64 r.1, v0_, .int .i64 r.2.2]) ∧ Kd.R k65 65 w' w.heap.size (fun _ => True) v0_ r.2.1 ∧ Below w.heap.size w w' := by
  subst h
  exact batch_Decode_calls A c b w hr0 hc hb hlen
theorem encR_short (seq : Int) (l : List Op04) (h : (encR seq l).2 = 0) : (encR seq l).1.length ≤ 1048576 ∧ Bytes (encR seq l).1 := by
  obtain ⟨hc, hf, e⟩ := encR_ok h
  have ht := (chk_ok hc).2.2.2
  rw [e]
  refine ⟨?_, encB_bytes _ _⟩
  show (encB seq l).length ≤ 1048576
  rw [encB_len]
  exact ht
theorem decB_seq (b : List Int) (hb : Bytes b) : 0 ≤ (decB b).1 := by
  have h := (seg8_small b hb).1
  unfold decB
  split
  · exact Int.le_refl _
  · split
    · exact h
    · exact Int.le_refl _
theorem decB_sane (b : List Int) (hb : Bytes b) (hl : b.length ≤ 1048576) : Sane (decB b).2.1 := by
  have h := sane_gone b hb hl
  have h0 : Sane ([] : List Op04) := ⟨by simp, fun x hx => by cases hx⟩
  unfold decB
  split
  · exact h0
  · split
    · exact h
    · exact h0
set_option maxHeartbeats 8000000 in
set_option maxRecDepth 100000 in
theorem BatchBack_aa (a0 : Int) (h0 : 0 ≤ a0) (h64 : a0 < 18446744073709551616) (A1 : Option Addr) (c1 : Nat) (l1 : List Op04) (A2 : Option Addr) (c2 : Nat) (l2 : List Int) (w : World) (hc1 : l1.length ≤ c1) (hr1 : Kd.C k65 w A1 l1.length l1) (hs : Sane l1) (hc2 : l2.length ≤ c2) (hr2 : Kd.C (Kd.int .u8) w A2 l2.length l2) (hb2 : Bytes l2) (hl2 : l2.length ≤ 1048576)
    (hf : (encR a0 l1).2 = 0) (hd : (decB l2).2.2 = 0) :
    Calls Try.prog 7 #[.int .u64 a0, .slice A1 l1.length c1, .slice A2 l2.length c2] w fun e w' => e = .returned (.bool true) ∧ Below w.heap.size w w' := by
  have HR1 := Aside0.mk hr1
  have HC1 := Aside0.mk hc1
  have HR2 := Aside0.mk hr2
  have HC2 := Aside0.mk hc2
  have HB2 := Aside0.mk hb2
  have HL2 := Aside0.mk hl2
  have HS := Aside0.mk (show l1.length ≤ 1099511627776 from Nat.le_trans (And.left (show _ ∧ _ from hs)) (by decide))
  have H1 := Aside0.mk (encode_eq (11 + l1.length) a0 l1 h0 hs (Nat.le_refl _))
  have HE := Aside0.mk (encR_short a0 l1 hf)
  have HP := Aside0.mk (show decB (encR a0 l1).1 = (a0, l1, 0) by rw [(encR_ok hf).2.2]; exact decB_put a0 l1 h0 h64 hf)
  have HY := Aside0.mk (decB_at l2 hb2 hl2 hd).2
  have H3 := Aside0.mk (encode_eq (11 + (decB l2).2.1.length) (decB l2).1 (decB l2).2.1 (decB_seq l2 hb2) (decB_sane l2 hb2 hl2) (Nat.le_refl _))
  have hf2_ := hf
  clear hr1 hc1 hr2 hc2 hb2 hl2 hs hf
  go_enter Try.func7, Try.ntmps7
  go_wp2_with fail
  (with_reducible refine (morainelaw04_works.calls 13 true _ (works_true 13 (Nat.le_refl _))).mono ?_)
  rintro e w1 ⟨rfl, hb⟩
  have HW1 := Aside0.mk hb
  clear hb
  go_wp2_with fail
  (with_reducible refine (batch_Encode.calls _ a0 A1 c1 l1 _ _ _ (Kd.C_below HR1.out HW1.out) HC1.out H1.out).mono ?_)
  rintro e w2 ⟨v2, rfl, ho, hb⟩
  have HO2 := Aside0.mk ho
  have HW2 := Aside0.mk (below_step HW1.out hb)
  clear hb ho
  obtain ⟨r, hr⟩ : ∃ r, encR a0 l1 = r := ⟨_, rfl⟩
  have HO3 := HO2.out
  have HE3 := HE.out
  have HP3 := HP.out
  have hf0 : (encR a0 l1).2 = 0 := by have := hf2_; exact this
  rw [hr] at HO3 HE3 HP3 hf0 ⊢
  obtain ⟨r, f⟩ := r
  obtain rfl : f = 0 := hf0
  obtain ⟨A3, c3, rfl, hl3, hC3⟩ := Kd.R_reads HO3
  dsimp only [] at HE3 HP3 HO3 hl3 hC3 ⊢
  have HC3 := Aside0.mk hC3
  have HL3 := Aside0.mk hl3
  have HE4 := Aside0.mk HE3
  have HP4 := Aside0.mk HP3
  clear hr hf2_ HO2 HO3 HE HE3 HP HP3 hC3 hl3 H1
  go_wp2_with fail
  (with_reducible refine (batch_Decode_calls' A3 c3 r _ _ HC3.out HL3.out HE4.out.2 HE4.out.1 HP4.out).mono ?_)
  rintro e w3 ⟨v3, rfl, ho, hb⟩
  obtain ⟨A4, c4, rfl, hl4, hC4⟩ := Kd.R_reads ho
  have HC4 := Aside0.mk hC4
  have HL4 := Aside0.mk hl4
  have HW2 := Aside0.mk (below_step HW2.out hb)
  clear hb ho hC4 hl4
  go_wp2_with fail
  (with_reducible refine (morainelaw04_same.calls _ A4 c4 l1 A1 c1 l1 _ _ HC4.out HL4.out (Kd.C_below HR1.out HW2.out) HC1.out (same_self l1 HS.out)).mono ?_)
  rintro e w4 ⟨rfl, hd4⟩
  have HW2 := Aside0.mk (below_step HW2.out hd4.below)
  clear hd4
  go_wp2_with fail
  (with_reducible refine (batch_Decode_calls' A2 c2 l2 _ _ (Kd.C_below HR2.out HW2.out) HC2.out HB2.out HL2.out rfl).mono ?_)
  rintro e w5 ⟨v5, rfl, ho, hb⟩
  have HW5 := Aside0.mk (below_step HW2.out hb)
  have H33 := H3.out
  have HY3 := HY.out
  generalize decB l2 = D at ho H33 HY3 hd ⊢
  obtain ⟨n, L, z⟩ := D
  dsimp only [] at ho H33 HY3 hd ⊢
  subst hd
  obtain ⟨A6, c6, rfl, hl6, hC6⟩ := Kd.R_reads ho
  have HC6 := Aside0.mk hC6
  have HL6 := Aside0.mk hl6
  rw [HY3] at H33
  have H3 := Aside0.mk H33
  clear hb ho hC6 hl6 HY3 HY H33
  go_wp2_with fail
  (with_reducible refine (batch_Encode.calls _ n A6 c6 L _ _ _ HC6.out HL6.out H3.out).mono ?_)
  rintro e w7 ⟨v7, rfl, ho, hb⟩
  have HW7 := Aside0.mk (below_step HW5.out hb)
  have hcv7 := own_string (P := Try.prog) Try.underlying33 Try.underlying5 Try.underlying9 (Kd.own_of_R ho)
  obtain ⟨B7, d7, rfl⟩ := Kd.R_slice ho
  have hcv2 := Kd.C_string (P := Try.prog) (A := A2) (c := c2) Try.underlying33 Try.underlying5 Try.underlying9 (Kd.C_below HR2.out HW7.out)
  clear hb ho
  generalize hn : l2.length = m at *
  go_wp2
  go_ret
  exact ⟨by simp, HW7.out⟩
set_option maxHeartbeats 8000000 in
set_option maxRecDepth 100000 in
theorem BatchBack_ab (a0 : Int) (h0 : 0 ≤ a0) (h64 : a0 < 18446744073709551616) (A1 : Option Addr) (c1 : Nat) (l1 : List Op04) (A2 : Option Addr) (c2 : Nat) (l2 : List Int) (w : World) (hc1 : l1.length ≤ c1) (hr1 : Kd.C k65 w A1 l1.length l1) (hs : Sane l1) (hc2 : l2.length ≤ c2) (hr2 : Kd.C (Kd.int .u8) w A2 l2.length l2) (hb2 : Bytes l2) (hl2 : l2.length ≤ 1048576)
    (hf : (encR a0 l1).2 = 0) (hd : (decB l2).2.2 ≠ 0) :
    Calls Try.prog 7 #[.int .u64 a0, .slice A1 l1.length c1, .slice A2 l2.length c2] w fun e w' => e = .returned (.bool true) ∧ Below w.heap.size w w' := by
  have HR1 := Aside0.mk hr1
  have HC1 := Aside0.mk hc1
  have HR2 := Aside0.mk hr2
  have HC2 := Aside0.mk hc2
  have HB2 := Aside0.mk hb2
  have HL2 := Aside0.mk hl2
  have HS := Aside0.mk (show l1.length ≤ 1099511627776 from Nat.le_trans (And.left (show _ ∧ _ from hs)) (by decide))
  have H1 := Aside0.mk (encode_eq (11 + l1.length) a0 l1 h0 hs (Nat.le_refl _))
  have HE := Aside0.mk (encR_short a0 l1 hf)
  have HP := Aside0.mk (show decB (encR a0 l1).1 = (a0, l1, 0) by rw [(encR_ok hf).2.2]; exact decB_put a0 l1 h0 h64 hf)
  have HD := Aside0.mk (decB_bad l2 hd)
  have hf2_ := hf
  clear hr1 hc1 hr2 hc2 hb2 hl2 hs hf
  go_enter Try.func7, Try.ntmps7
  go_wp2_with fail
  (with_reducible refine (morainelaw04_works.calls 13 true _ (works_true 13 (Nat.le_refl _))).mono ?_)
  rintro e w1 ⟨rfl, hb⟩
  have HW1 := Aside0.mk hb
  clear hb
  go_wp2_with fail
  (with_reducible refine (batch_Encode.calls _ a0 A1 c1 l1 _ _ _ (Kd.C_below HR1.out HW1.out) HC1.out H1.out).mono ?_)
  rintro e w2 ⟨v2, rfl, ho, hb⟩
  have HO2 := Aside0.mk ho
  have HW2 := Aside0.mk (below_step HW1.out hb)
  clear hb ho
  obtain ⟨r, hr⟩ : ∃ r, encR a0 l1 = r := ⟨_, rfl⟩
  have HO3 := HO2.out
  have HE3 := HE.out
  have HP3 := HP.out
  have hf0 : (encR a0 l1).2 = 0 := by have := hf2_; exact this
  rw [hr] at HO3 HE3 HP3 hf0 ⊢
  obtain ⟨r, f⟩ := r
  obtain rfl : f = 0 := hf0
  obtain ⟨A3, c3, rfl, hl3, hC3⟩ := Kd.R_reads HO3
  dsimp only [] at HE3 HP3 HO3 hl3 hC3 ⊢
  have HC3 := Aside0.mk hC3
  have HL3 := Aside0.mk hl3
  have HE4 := Aside0.mk HE3
  have HP4 := Aside0.mk HP3
  clear hr hf2_ HO2 HO3 HE HE3 HP HP3 hC3 hl3 H1
  go_wp2_with fail
  (with_reducible refine (batch_Decode_calls' A3 c3 r _ _ HC3.out HL3.out HE4.out.2 HE4.out.1 HP4.out).mono ?_)
  rintro e w3 ⟨v3, rfl, ho, hb⟩
  obtain ⟨A4, c4, rfl, hl4, hC4⟩ := Kd.R_reads ho
  have HC4 := Aside0.mk hC4
  have HL4 := Aside0.mk hl4
  have HW2 := Aside0.mk (below_step HW2.out hb)
  clear hb ho hC4 hl4
  go_wp2_with fail
  (with_reducible refine (morainelaw04_same.calls _ A4 c4 l1 A1 c1 l1 _ _ HC4.out HL4.out (Kd.C_below HR1.out HW2.out) HC1.out (same_self l1 HS.out)).mono ?_)
  rintro e w4 ⟨rfl, hd4⟩
  have HW2 := Aside0.mk (below_step HW2.out hd4.below)
  clear hd4
  go_wp2_with fail
  (with_reducible refine (batch_Decode_calls' A2 c2 l2 _ _ (Kd.C_below HR2.out HW2.out) HC2.out HB2.out HL2.out HD.out).mono ?_)
  rintro e w5 ⟨v5, rfl, ho, hb⟩
  have HW5 := Aside0.mk (below_step HW2.out hb)
  obtain ⟨A6, c6, rfl, hl6, hC6⟩ := Kd.R_reads ho
  clear hb ho hC6 hl6
  go_wp2
  go_ret
  exact ⟨by simp, HW5.out⟩
set_option maxHeartbeats 8000000 in
set_option maxRecDepth 100000 in
theorem BatchBack_ba (a0 : Int) (h0 : 0 ≤ a0) (h64 : a0 < 18446744073709551616) (A1 : Option Addr) (c1 : Nat) (l1 : List Op04) (A2 : Option Addr) (c2 : Nat) (l2 : List Int) (w : World) (hc1 : l1.length ≤ c1) (hr1 : Kd.C k65 w A1 l1.length l1) (hs : Sane l1) (hc2 : l2.length ≤ c2) (hr2 : Kd.C (Kd.int .u8) w A2 l2.length l2) (hb2 : Bytes l2) (hl2 : l2.length ≤ 1048576)
    (hf : (encR a0 l1).2 ≠ 0) (hd : (decB l2).2.2 = 0) :
    Calls Try.prog 7 #[.int .u64 a0, .slice A1 l1.length c1, .slice A2 l2.length c2] w fun e w' => e = .returned (.bool true) ∧ Below w.heap.size w w' := by
  have HR1 := Aside0.mk hr1
  have HC1 := Aside0.mk hc1
  have HR2 := Aside0.mk hr2
  have HC2 := Aside0.mk hc2
  have HB2 := Aside0.mk hb2
  have HL2 := Aside0.mk hl2
  have HS := Aside0.mk (show l1.length ≤ 1099511627776 from Nat.le_trans (And.left (show _ ∧ _ from hs)) (by decide))
  have H1 := Aside0.mk (encode_eq (11 + l1.length) a0 l1 h0 hs (Nat.le_refl _))
  have HF := Aside0.mk hf
  have HY := Aside0.mk (decB_at l2 hb2 hl2 hd).2
  have H3 := Aside0.mk (encode_eq (11 + (decB l2).2.1.length) (decB l2).1 (decB l2).2.1 (decB_seq l2 hb2) (decB_sane l2 hb2 hl2) (Nat.le_refl _))
  clear hr1 hc1 hr2 hc2 hb2 hl2 hs hf
  go_enter Try.func7, Try.ntmps7
  go_wp2_with fail
  (with_reducible refine (morainelaw04_works.calls 13 true _ (works_true 13 (Nat.le_refl _))).mono ?_)
  rintro e w1 ⟨rfl, hb⟩
  have HW1 := Aside0.mk hb
  clear hb
  go_wp2_with fail
  (with_reducible refine (batch_Encode.calls _ a0 A1 c1 l1 _ _ _ (Kd.C_below HR1.out HW1.out) HC1.out H1.out).mono ?_)
  rintro e w2 ⟨v2, rfl, ho, hb⟩
  have HO2 := Aside0.mk ho
  have HW2 := Aside0.mk (below_step HW1.out hb)
  clear hb ho
  obtain ⟨f, hf⟩ : ∃ f, (encR a0 l1).2 = f := ⟨_, rfl⟩
  have hf0 := HF.out
  rw [hf] at hf0 ⊢
  clear hf HO2 H1
  go_wp2_with fail
  (with_reducible refine (batch_Decode_calls' A2 c2 l2 _ _ (Kd.C_below HR2.out HW2.out) HC2.out HB2.out HL2.out rfl).mono ?_)
  rintro e w5 ⟨v5, rfl, ho, hb⟩
  have HW5 := Aside0.mk (below_step HW2.out hb)
  have H33 := H3.out
  have HY3 := HY.out
  generalize decB l2 = D at ho H33 HY3 hd ⊢
  obtain ⟨n, L, z⟩ := D
  dsimp only [] at ho H33 HY3 hd ⊢
  subst hd
  obtain ⟨A6, c6, rfl, hl6, hC6⟩ := Kd.R_reads ho
  have HC6 := Aside0.mk hC6
  have HL6 := Aside0.mk hl6
  rw [HY3] at H33
  have H3 := Aside0.mk H33
  clear hb ho hC6 hl6 HY3 HY H33
  go_wp2_with fail
  (with_reducible refine (batch_Encode.calls _ n A6 c6 L _ _ _ HC6.out HL6.out H3.out).mono ?_)
  rintro e w7 ⟨v7, rfl, ho, hb⟩
  have HW7 := Aside0.mk (below_step HW5.out hb)
  have hcv7 := own_string (P := Try.prog) Try.underlying33 Try.underlying5 Try.underlying9 (Kd.own_of_R ho)
  obtain ⟨B7, d7, rfl⟩ := Kd.R_slice ho
  have hcv2 := Kd.C_string (P := Try.prog) (A := A2) (c := c2) Try.underlying33 Try.underlying5 Try.underlying9 (Kd.C_below HR2.out HW7.out)
  clear hb ho
  generalize hn : l2.length = m at *
  go_wp2
  go_ret
  exact ⟨by simp, HW7.out⟩
set_option maxHeartbeats 8000000 in
set_option maxRecDepth 100000 in
theorem BatchBack_bb (a0 : Int) (h0 : 0 ≤ a0) (h64 : a0 < 18446744073709551616) (A1 : Option Addr) (c1 : Nat) (l1 : List Op04) (A2 : Option Addr) (c2 : Nat) (l2 : List Int) (w : World) (hc1 : l1.length ≤ c1) (hr1 : Kd.C k65 w A1 l1.length l1) (hs : Sane l1) (hc2 : l2.length ≤ c2) (hr2 : Kd.C (Kd.int .u8) w A2 l2.length l2) (hb2 : Bytes l2) (hl2 : l2.length ≤ 1048576)
    (hf : (encR a0 l1).2 ≠ 0) (hd : (decB l2).2.2 ≠ 0) :
    Calls Try.prog 7 #[.int .u64 a0, .slice A1 l1.length c1, .slice A2 l2.length c2] w fun e w' => e = .returned (.bool true) ∧ Below w.heap.size w w' := by
  have HR1 := Aside0.mk hr1
  have HC1 := Aside0.mk hc1
  have HR2 := Aside0.mk hr2
  have HC2 := Aside0.mk hc2
  have HB2 := Aside0.mk hb2
  have HL2 := Aside0.mk hl2
  have HS := Aside0.mk (show l1.length ≤ 1099511627776 from Nat.le_trans (And.left (show _ ∧ _ from hs)) (by decide))
  have H1 := Aside0.mk (encode_eq (11 + l1.length) a0 l1 h0 hs (Nat.le_refl _))
  have HF := Aside0.mk hf
  have HD := Aside0.mk (decB_bad l2 hd)
  clear hr1 hc1 hr2 hc2 hb2 hl2 hs hf
  go_enter Try.func7, Try.ntmps7
  go_wp2_with fail
  (with_reducible refine (morainelaw04_works.calls 13 true _ (works_true 13 (Nat.le_refl _))).mono ?_)
  rintro e w1 ⟨rfl, hb⟩
  have HW1 := Aside0.mk hb
  clear hb
  go_wp2_with fail
  (with_reducible refine (batch_Encode.calls _ a0 A1 c1 l1 _ _ _ (Kd.C_below HR1.out HW1.out) HC1.out H1.out).mono ?_)
  rintro e w2 ⟨v2, rfl, ho, hb⟩
  have HO2 := Aside0.mk ho
  have HW2 := Aside0.mk (below_step HW1.out hb)
  clear hb ho
  obtain ⟨f, hf⟩ : ∃ f, (encR a0 l1).2 = f := ⟨_, rfl⟩
  have hf0 := HF.out
  rw [hf] at hf0 ⊢
  clear hf HO2 H1
  go_wp2_with fail
  (with_reducible refine (batch_Decode_calls' A2 c2 l2 _ _ (Kd.C_below HR2.out HW2.out) HC2.out HB2.out HL2.out HD.out).mono ?_)
  rintro e w5 ⟨v5, rfl, ho, hb⟩
  have HW5 := Aside0.mk (below_step HW2.out hb)
  obtain ⟨A6, c6, rfl, hl6, hC6⟩ := Kd.R_reads ho
  clear hb ho hC6 hl6
  go_wp2
  go_ret
  exact ⟨by simp, HW5.out⟩
theorem BatchBack_upto (w : World) (a0 : Int) (hg0 : (Lit.int .u64 a0).wf = true) (A1 : Option Addr) (c1 : Nat) (l1 : List S65) (hc1 : l1.length ≤ c1) (hr1 : Kd.C k65 w A1 l1.length l1) (hg1 : ∀ x ∈ l1, (Lit.int .i64 x.f0).wf = true ∧ x.f1.size ≤ maxLen ∧ x.f2.size ≤ maxLen) (A2 : Option Addr) (c2 : Nat) (l2 : List Int) (hc2 : l2.length ≤ c2) (hr2 : Kd.C (Kd.int .u8) w A2 l2.length l2) (hg2 : ∀ x ∈ l2, (Lit.int .u8 x).wf = true)
    (hbulk : 1 + (sumBulk (fun x : S65 => 1 + (x.f1.size + 1) + (x.f2.size + 1) + 1) l1 + 1) + (sumBulk (fun _ : Int => 1) l2 + 1) ≤ 1048576) :
    Calls Try.prog 7 #[.int .u64 a0, .slice A1 l1.length c1, .slice A2 l2.length c2] w fun e w' => e = .returned (.bool true) ∧ Below w.heap.size w w' := by
  have hs := sane_of_bulk (l := l1) (by omega)
  have ha : 0 ≤ a0 ∧ a0 ≤ 18446744073709551615 := by simpa [Lit.wf, IntKind.min, IntKind.max, IntKind.signed, IntKind.bits] using hg0
  have hb := bytes_of_wf hg2
  have hlb := sumBulk_len (fun _ : Int => 1) (fun _ => Nat.le_refl _) l2
  by_cases hf : (encR a0 l1).2 = 0
  · by_cases hd : (decB l2).2.2 = 0
    · exact BatchBack_aa a0 ha.1 (by omega) A1 c1 l1 A2 c2 l2 w hc1 hr1 hs hc2 hr2 hb (by omega) hf hd
    · exact BatchBack_ab a0 ha.1 (by omega) A1 c1 l1 A2 c2 l2 w hc1 hr1 hs hc2 hr2 hb (by omega) hf hd
  · by_cases hd : (decB l2).2.2 = 0
    · exact BatchBack_ba a0 ha.1 (by omega) A1 c1 l1 A2 c2 l2 w hc1 hr1 hs hc2 hr2 hb (by omega) hf hd
    · exact BatchBack_bb a0 ha.1 (by omega) A1 c1 l1 A2 c2 l2 w hc1 hr1 hs hc2 hr2 hb (by omega) hf hd

end Go.Proofs.Ythkooncibfkepaa.G

/- Contracts typed by hand: morainelaw04.lent makes a copy with a mark behind its end; morainelaw04.kept tells that such a copy stands as it was. -/
namespace Go.Proofs.Ythkooncibfkepaa.G
open Go.RowKit Go.Proofs.YthkooncibfkepaaW.PrintWords Go.Proofs.YthkooncibfkepaaW.PrintLast Go.Proofs.YthkooncibfkepaaW.PrintMore
attribute [local go_sem] max2_int min2_int max_two min_two max_three min_three max_four min_four
set_option linter.unusedVariables false
set_option linter.unusedSimpArgs false

/-! morainelaw04.lent makes a copy with a mark behind its end; morainelaw04.kept tells that such a copy stands as it was. -/

theorem C_prefix {w : World} {A : Option Addr} {xs ys : List Int} (h : Kd.C (Kd.int .u8) w A (xs.length + ys.length) (xs ++ ys)) : Kd.C (Kd.int .u8) w A xs.length xs := by
  rw [← List.length_append] at h
  have h1 := Kd.C_take (m := xs.length) h (by simp)
  rwa [List.take_left] at h1
theorem lent_len (l : List Int) : (l ++ [(90 : Int)]).length = l.length + 1 := by simp
theorem lent_rd (l : List Int) : rd (l ++ [(90 : Int)]) (l.length : Int) = 90 := by simp [rd, List.getD_eq_getElem?_getD]
set_option maxHeartbeats 2000000 in
theorem morainelaw04_lent.calls (A0 : Option Addr) (c0 : Nat) (l0 : List Int) (w : World) (hr0 : Kd.C (Kd.int .u8) w A0 l0.length l0) (hc0 : l0.length ≤ c0) (hl : l0.length ≤ 140737488355000) :
    Calls Try.prog 32 #[.slice A0 l0.length c0] w fun e w' => ∃ (A : Option Addr) (c : Nat), e = .returned (.slice A l0.length c) ∧ Kd.R (Kd.int .u8) 5 w' w.heap.size (fun _ => True) (.slice A (l0.length + 1) c) (l0 ++ [90]) ∧ Below w.heap.size w w' := by
  have HR := Aside0.mk hr0
  have HC := Aside0.mk hc0
  clear hr0 hc0
  have HL := Aside0.mk hl
  have hinfo : (Try.prog.info? 5).map (fun i => (i.zero, i.size, i.bytes)) = some (some (.int .u8 0), 1, 1) := by kernel_rfl
  have HI := Aside0.mk hinfo
  clear hinfo
  have HB := Aside0.mk (Below.refl w.heap.size w)
  go_enter Try.func32, Try.ntmps32
  go_wp2_with (first | ((with_reducible refine gate_dst (N := 3) rfl ?_); refine Kd.R_lit (Kd.int .u8) _ 5 ?hg (N := 3) ?hd (xs := ([] : List Int)) (inner := []) (ok := fun _ => True) (okp := fun _ => True) ?hr ?hp (fun _ hk => hk) trivial (Below.refl _ _) (Nat.le_refl _) (by simp) ?_; (case hd => rfl); (case hg => rfl); (case hr => first | (go_simp; done) | (go_simp; rfl)); (case hp => exact (Reps.none _ _)); intro v102 w6 ho7 hb hg_ hnew_; clear hg_ hnew_; have HO1 := Aside0.mk ho7; have HB1 := Aside0.mk hb; clear hb ho7) | ((with_reducible refine gate_builtin (b := .append) (xs := #[.tmp 3, .tmp 4]) rfl ?_); at_builtin; refine Kd.R_append_rows (Kd.int .u8) (w0 := w) w.heap.size rfl (.tmp 3) (.tmp 4) 33 5 (.int .u8 0) 1 rfl Try.underlying33 HI.out rfl (by decide) (by omega) v102 [] l0 _ _ _ (fun _ => True) (fun _ => False) rfl rfl ?aO ?aR (fun _ _ h => h) (fun _ h => h.elim) (fun _ _ => trivial) ?aB ?aS ?aL ?_; (case aR => exact (Kd.C_below HR.out HB1.out)); (case aB => exact HB1.out); (case aO => exact HO1.out); (case aS => exact HB1.out.size); (case aL => have := HL.out; simp; omega); intro v105 w8 ho hb hg hat; have HO2 := Aside0.mk ho; have HB2 := Aside0.mk hb; clear ho hb hg hat) | ((with_reducible refine gate_builtin (b := .append) (xs := #[.tmp 5, .tmp 6]) rfl ?_); at_builtin; refine Kd.R_append (Kd.int .u8) (w0 := w) w.heap.size rfl (.tmp 5) (.tmp 6) 33 5 (.int .u8 0) 1 rfl Try.underlying33 HI.out rfl (by decide) (by omega) v105 ([] ++ l0) 90 [.int .u8 90] (fun _ => True) (fun _ => False) rfl rfl ?aP (fun _ hk => hk.elim) (fun _ _ => trivial) ?aO ?aB ?aS ?aL ?_; (case aP => exact rfl); (case aB => exact HB2.out); (case aO => exact HO2.out); (case aS => exact HB2.out.size); (case aL => have := HL.out; simp; omega); intro v108 w9 ho hb hg hat; have ho2 : Kd.R (Kd.int .u8) 5 w9 w.heap.size (fun _ => True) v108 (l0 ++ [90]) := ho; have HB3 := Aside0.mk hb; clear ho hb hg hat; obtain ⟨Ao10, co10, eo10⟩ := Kd.R_slice ho2; subst eo10; rw [lent_len] at ho2; have HO3 := Aside0.mk ho2; have hcc : l0.length + 1 ≤ co10 := (Kd.R_reads' ho2).2.1; clear ho2; obtain ⟨i011, hi011, _, hsz11, _⟩ := info_parts HI.out; rw [lent_len]; have hcut11 := cut_to (P := Try.prog) 33 5 .i64 Try.underlying33 hi011 Ao10 (l0.length + 1) co10 (l0.length : Int) (by omega) (by omega) hcc; rw [Int.toNat_natCast] at hcut11; clear hi011 hsz11))
  go_ret
  exact ⟨_, _, rfl, HO3.out, HB3.out⟩
set_option maxHeartbeats 2000000 in
theorem morainelaw04_kept.calls (A0 : Option Addr) (c0 : Nat) (l0 : List Int) (A1 : Option Addr) (c1 : Nat) (w : World) (hr0 : Kd.C (Kd.int .u8) w A0 (l0.length + 1) (l0 ++ [90])) (hc0 : l0.length + 1 ≤ c0) (hr1 : Kd.C (Kd.int .u8) w A1 l0.length l0) (hl : l0.length ≤ 140737488355000) :
    Calls Try.prog 38 #[.slice A0 l0.length c0, .slice A1 l0.length c1] w fun e w' => e = .returned (.bool true) ∧ Drawn0 w w' := by
  have hcv0 := Kd.C_string (P := Try.prog) (w := w) (A := A0) (c := c0) Try.underlying33 Try.underlying5 Try.underlying9 (C_prefix (ys := [90]) hr0)
  have hcv1 := Kd.C_string (P := Try.prog) (w := w) (A := A1) (c := c1) Try.underlying33 Try.underlying5 Try.underlying9 hr1
  obtain ⟨ad, e1, hx⟩ := Kd.at_int hr0 (l0.length : Int) (by omega) (by omega)
  rw [lent_rd, Int.toNat_natCast] at hx
  cases e1
  clear hr0 hr1
  generalize hn : l0.length = n at *
  clear hn
  go_enter Try.func38, Try.ntmps38
  go_wp2
  go_ret
  exact ⟨by simp, Drawn0.refl _⟩


end Go.Proofs.Ythkooncibfkepaa.G

/- Contracts typed by hand: the law BatchWalks: the operations of any bytes, gone through twice -/
namespace Go.Proofs.Ythkooncibfkepaa.G
open Go.RowKit Go.Proofs.YthkooncibfkepaaW.PrintWords Go.Proofs.YthkooncibfkepaaW.PrintLast Go.Proofs.YthkooncibfkepaaW.PrintMore
attribute [local go_sem] max2_int min2_int max_two min_two max_three min_three max_four min_four
set_option linter.unusedVariables false
set_option linter.unusedSimpArgs false

/-! the law BatchWalks: the operations of any bytes, gone through twice -/
open Go.Shelf
attribute [local go_sem] Oper.semAt_some
attribute [local go_sem high] eqA65
theorem gos_num (l : List Int) (seq : Int) : ∀ (d i : Nat) (p : Int) (j : Nat) (g : Gone), (gos l seq d i p)[j]? = some g → g.1 = IntKind.u64.wrap (seq + ((i + j : Nat) : Int))
  | 0, _, _, j, g, h => by simp [gos] at h
  | d + 1, i, p, j, g, h => by
    unfold gos at h
    split at h
    · cases j with
      | zero =>
        simp only [List.getElem?_cons_zero, Option.some.injEq] at h
        subst h
        simp
      | succ j =>
        rw [List.getElem?_cons_succ] at h
        have := gos_num l seq d (i + 1) _ j g h
        rw [this]
        congr 2
        push_cast
        omega
    · simp at h
theorem goneL_num (l : List Int) (j : Nat) (g : Gone) (h : (goneL l)[j]? = some g) : g.1 = IntKind.u64.wrap ((if l.length < 12 then 0 else le (seg l 0 8)) + (j : Int)) := by
  unfold goneL at h
  split at h
  · simp at h
  · rename_i h12
    rw [if_neg h12]
    have := gos_num l _ _ 0 12 j g h
    rw [this]
    simp
theorem pre_at {pre G : List Gone} {x : Gone} (h : pre ++ [x] <+: G) : G[pre.length]? = some x ∧ pre.length < G.length := by
  obtain ⟨t, ht⟩ := h
  rw [← ht]
  simp
theorem take_of_pre {pre G : List Gone} (h : pre <+: G) : pre.length ≤ G.length := h.length_le
theorem R_rowat {w : World} {base e : Nat} {ok : Nat → Prop} {A : Option Addr} {n c : Nat} {xs : List Int} (h : Kd.R (Kd.int .u8) e w base ok (.slice A n c) xs) : ∀ ad, A = some ad → ad.block < w.heap.size ∧ (Value.slice A n c).ownBlock = some ad.block := by
  intro ad hA
  obtain ⟨h0, inner, ho, _⟩ := h
  rcases ho.2 with ⟨e, _⟩ | ⟨g, cap, cur, e, _, hg, _⟩
  · injection e with e1 _ _
    rw [e1] at hA; cases hA
  · injection e with e1 _ _
    rw [e1] at hA
    obtain rfl : (⟨g, 0, none⟩ : Addr) = ad := Option.some.inj hA
    exact ⟨blk_lt hg, by rw [e1]; rfl⟩
theorem both_ways {K : Act → World → Prop} {Q' : Exit → Act → World → Prop} {e : Exit} {a : Act} {X : World} {id : Nat} (he : e = .normal ∨ e = .exit id) (h : K a X) : Exit.inBlock id (Exit.then K Q') e a X := by
  rcases he with rfl | rfl
  · exact h
  · show (if id = id then K a X else Q' (.exit id) a X)
    rw [if_pos rfl]
    exact h
theorem results_c {P : Program} {fn : Func} {p : Tmp} {ty : TypeId} (h : fn.results = #[.cell p ty]) (tmps : Array Value) (w : World) (g : Nat) (x : Value)
    (hp : tmps.getD p undef = .pointer (some ⟨g, 0, none⟩)) (hg : w.cell? ⟨g, 0, none⟩ = some x) (hu : P.underlying ty = some .bool) :
    (results fn tmps).run P w = .ok x w := by
  have hp' : tmps[p]?.getD undef = .pointer (some ⟨g, 0, none⟩) := by simpa using hp
  simp [results, h, hp', asAddr, loadVar, isAgg, run_underlying hu, hg, go_sem]
/-- what stands between two rounds -/
structure WS (w X : World) (early q : Int) (Bs Bo Bn gi ci n : Nat) (Ao Ac : Option Addr) (co cc : Nat) (L : List Op04) (l0 xs : List Int) : Prop where
  below : Below w.heap.size w X
  e : Boxed X w.heap.size 3 (.int .i64 early)
  t : Boxed X (w.heap.size + 1) 4 (.bool false)
  s : Boxed X Bs 32 (.int .u64 q)
  o : Boxed X Bo 22 (.slice Ao L.length co)
  op : Kd.R k65 65 X w.heap.size (fun _ => True) (.slice Ao L.length co) L
  nb : Boxed X Bn 33 (.slice Ac n cc)
  cl : Kd.R (Kd.int .u8) 5 X w.heap.size (fun k => k ≠ gi) (.slice Ac n cc) l0
  inn : Kd.R (Kd.int .u8) 5 X w.heap.size (fun _ => True) (.slice (some ⟨gi, 0, none⟩) (n + 1) ci) xs
  xl : xs.length = n + 1
theorem WS.later {w X Y : World} {early q : Int} {Bs Bo Bn gi ci n : Nat} {Ao Ac : Option Addr} {co cc : Nat} {L : List Op04} {l0 xs : List Int} (h : WS w X early q Bs Bo Bn gi ci n Ao Ac co cc L l0 xs) (hb : Below X.heap.size X Y) :
    WS w Y early q Bs Bo Bn gi ci n Ao Ac co cc L l0 xs :=
  ⟨below_step h.below hb, blk_below h.e hb, blk_below h.t hb, blk_below h.s hb, blk_below h.o hb, Kd.R_below h.op hb, blk_below h.nb hb, Kd.R_below h.cl hb, Kd.R_below h.inn hb, h.xl⟩
theorem row_type {X : World} {base e : Nat} {ok : Nat → Prop} {g n c : Nat} {xs : List Int} (h : Kd.R (Kd.int .u8) e X base ok (.slice (some ⟨g, 0, none⟩) n c) xs) : ∃ cells, X.heap[g]? = some (.cells cells e (0, 0)) := Kd.R_typed h g rfl
theorem blk_far {X : World} {g b e t : Nat} {cells cs : Array Value} (hb : X.heap[b]? = some (.cells cs t (0, 0))) (hg : X.heap[g]? = some (.cells cells e (0, 0))) (hne : t ≠ e) (j : Nat) (v : Value) : (X.setCell ⟨g, j, none⟩ v).heap[b]? = some (.cells cs t (0, 0)) :=
  (Below.heap_setCell X ⟨g, j, none⟩ v b (fun h => by
    have h' : b = g := h
    rw [h', hg] at hb
    injection hb with hb
    injection hb with _ h2 _
    exact hne h2.symm)).trans hb
theorem dfr_far {X : World} {g b e j : Nat} {v : Value} {cells : Array Value} {d : Option (List Deferred)} (hb : X.heap[b]? = some (.deferred d)) (hg : X.heap[g]? = some (.cells cells e (0, 0))) : (X.setCell ⟨g, j, none⟩ v).heap[b]? = some (.deferred d) :=
  (Below.heap_setCell X ⟨g, j, none⟩ v b (fun h => by
    have h' : b = g := h
    rw [h', hg] at hb
    cases hb)).trans hb
theorem WS.put {w X : World} {early q : Int} {Bs Bo Bn gi ci n : Nat} {Ao Ac : Option Addr} {co cc : Nat} {L : List Op04} {l0 xs : List Int} (h : WS w X early q Bs Bo Bn gi ci n Ao Ac co cc L l0 xs) (j : Nat) (u : Int) :
    WS w (X.setCell ⟨gi, j, none⟩ (.int .u8 u)) early q Bs Bo Bn gi ci n Ao Ac co cc L l0 (xs.set j u) := by
  obtain ⟨cells, hg⟩ := row_type h.inn
  have hgb := Kd.R_base h.inn gi rfl
  refine ⟨below_set h.below hgb, blk_far h.e hg (by decide) j _, blk_far h.t hg (by decide) j _, blk_far h.s hg (by decide) j _, blk_far h.o hg (by decide) j _, ?_, blk_far h.nb hg (by decide) j _, ?_, ?_, by rw [List.length_set]; exact h.xl⟩
  · exact Kd.R_step (Kd.R_types h.op hg (by decide)) (fun k hk _ => Below.heap_setCell X ⟨gi, j, none⟩ _ k hk.2) |> fun r => Kd.R_mono r (fun _ _ => trivial)
  · exact Kd.R_step h.cl (fun k hk _ => Below.heap_setCell X ⟨gi, j, none⟩ _ k hk)
  · have := Kd.R_putn h.inn (j : Int) u
    rw [Int.toNat_natCast] at this
    exact this
/-- the frame of a round's body: what it reads stands in its place, the rest is whatever -/
def fr96 (u : Nat → Value) (e s o r i n b : Value) : Act := { tmps := #[u 0, u 1, u 2, e, u 4, u 5, s, o, u 8, u 9, r, i, n, b, u 14, u 15, u 16, u 17, u 18, u 19, u 20, u 21, u 22, u 23, u 24, u 25, u 26, u 27, u 28, u 29, u 30, u 31, u 32, u 33, u 34, u 35, u 36, u 37, u 38, u 39, u 40, u 41, u 42, u 43, u 44, u 45, u 46, u 47, u 48, u 49, u 50, u 51, u 52, u 53, u 54, u 55, u 56, u 57, u 58, u 59, u 60, u 61, u 62, u 63, u 64, u 65, u 66, u 67, u 68, u 69, u 70, u 71, u 72, u 73, u 74, u 75, u 76, u 77, u 78, u 79, u 80, u 81, u 82, u 83, u 84, u 85, u 86, u 87, u 88, u 89, u 90, u 91, u 92, u 93, u 94, u 95], defers := [] }
def walksAx (e s o r i : Value) (m : Nat) (x : Gone) (a' : Act) (X : World) : Prop :=
  ∃ Bx u, m ≤ Bx ∧ X.heap[Bx]? = some (.cells #[.int .i64 x.2.1.f0, .string x.2.1.f1, .string x.2.1.f2] 65 (0, 0)) ∧ a' = fr96 u e s o r i (.int .u64 x.1) (.pointer (some ⟨Bx, 0, none⟩))
theorem walksAx_of {e s o r i : Value} {m : Nat} {x : Gone} {a' : Act} {X : World} (Bx : Nat) (h1 : m ≤ Bx) (h2 : X.heap[Bx]? = some (.cells #[.int .i64 x.2.1.f0, .string x.2.1.f1, .string x.2.1.f2] 65 (0, 0)))
    (h3 : a' = fr96 (fun k => a'.tmps.getD k undef) e s o r i (.int .u64 x.1) (.pointer (some ⟨Bx, 0, none⟩))) : walksAx e s o r i m x a' X := ⟨Bx, _, h1, h2, h3⟩
/-- what the rounds of a walk keep -/
def walksI (Bi : Nat) (X0 : World) (pre : List Gone) (X : World) : Prop := Boxed X Bi 3 (.int .i64 (pre.length : Int)) ∧ Below X0.heap.size X0 X
theorem walksI_own (Bi B : Nat) (X0 : World) (hB : X0.heap.size ≤ B) : OwnFrom B (walksI Bi X0) := by
  rintro pre X Y row ⟨h1, h2⟩ hg hr
  exact ⟨cells_own Bi _ _ X Y row h1 hg (fun r e => (hr r e).2), ownFrom_below (β := Unit) (Nat.le_refl _) hB () X Y row h2 hg hr⟩
set_option maxHeartbeats 64000000 in
set_option maxRecDepth 100000 in
theorem BatchWalks_calls (A0 : Option Addr) (c0 : Nat) (l0 : List Int) (w : World) (hr0 : Kd.C (Kd.int .u8) w A0 l0.length l0) (hc0 : l0.length ≤ c0) (hb0 : Bytes l0) (hl : l0.length ≤ 1048576) (q z : Int) (L : List Op04)
    (hq : 0 ≤ q) (hq2 : q < 18446744073709551616) (hL : L = opsOf04 (goneL l0)) (hw : moraineref04_Walked.f (12 + l0.length) l0 = some (q, L, z)) (hnum : ∀ (j : Nat) (g : Gone), (goneL l0)[j]? = some g → g.1 = IntKind.u64.wrap (q + (j : Int))) (early : Int) :
    Calls Try.prog 8 #[.slice A0 l0.length c0, .int .i64 early] w fun e w' => e = .returned (.bool true) ∧ Below w.heap.size w w' := by
  have HR := Aside0.mk hr0
  have HC := Aside0.mk hc0
  have HY := Aside0.mk hb0
  have HLN := Aside0.mk hl
  have HLN2 := Aside0.mk (show l0.length ≤ 140737488355000 by omega)
  have HLN3 := Aside0.mk (show l0.length ≤ 1099511627776 by omega)
  have HW := Aside0.mk hw
  have HNUM := Aside0.mk hnum
  have HLL := Aside0.mk hL
  have HGL := Aside0.mk (show (goneL l0).length ≤ 1048576 by have := goneL_len l0 hb0 (by omega); omega)
  have HLG := Aside0.mk (show L.length = (goneL l0).length by rw [hL, opsOf_len])
  have HQ := Aside0.mk (show 0 ≤ q ∧ q < 18446744073709551616 from ⟨hq, hq2⟩)
  obtain ⟨W0, hW0⟩ : ∃ W0, (w.alloc (.cells #[.int .i64 early] 3)).alloc (.cells #[.bool false] 4) = W0 := ⟨_, rfl⟩
  have z0 : W0.heap.size = w.heap.size + 2 := by rw [← hW0, World.size_alloc, World.size_alloc]
  have hx0 : Boxed W0 w.heap.size 3 (.int .i64 early) := by rw [← hW0]; exact (Boxed.new w 3 (.int .i64 early)).alloc _
  have hx1 : Boxed W0 (w.heap.size + 1) 4 (.bool false) := by
    have := Boxed.new (w.alloc (.cells #[.int .i64 early] 3)) 4 (.bool false)
    rw [World.size_alloc] at this
    rw [← hW0]; exact this
  have HB0 := Aside0.mk (show Below w.heap.size w W0 by rw [← hW0]; exact below_alloc (below_alloc (Below.refl _ _) _) _)
  have HE0 := Aside0.mk hx0
  have HT0 := Aside0.mk hx1
  have HZ0 := Aside0.mk z0
  have HW0 := Aside0.mk hW0
  clear hr0 hc0 hb0 hl hw hL hx0 hx1 z0 hnum hq hq2 hW0
  refine (callsIn_wide (n := 4)).1 ?_
  refine callsIn_of_wp_marks Try.func8 rfl trivial ?_ rfl
  simp only [Try.ntmps8, List.size_toArray, List.length_cons, List.length_nil, Nat.reduceAdd, Nat.reduceSub, Array.replicate_succ, Array.replicate_zero, List.push_toArray, List.append_toArray, List.nil_append, List.cons_append]
  gi_wp2_with fail
  refine ⟨trivial, ?_⟩
  rw [HW0.out]
  (with_reducible refine (callsIn_wide.2 (morainelaw04_lent.calls A0 c0 l0 _ (Kd.C_below HR.out HB0.out) HC.out HLN2.out)).mono ?_)
  rintro e w1 ⟨Ai, ci, rfl, ho, hb⟩
  obtain ⟨gi, ci2, egi, _⟩ := Kd.R_form ho (by simp)
  injection egi with egi1 egi2 egi3
  subst egi1
  subst egi3
  clear egi2
  have HI := Aside0.mk ho
  have HB1 := Aside0.mk (below_step HB0.out hb)
  have HE1 := Aside0.mk (show Boxed w1 w.heap.size 3 (.int .i64 early) from blk_below HE0.out hb)
  have HT1 := Aside0.mk (show Boxed w1 (w.heap.size + 1) 4 (.bool false) from blk_below HT0.out hb)
  clear ho hb
  gi_wp2_with fail
  refine ⟨trivial, ?_⟩
  (with_reducible refine (callsIn_wide.2 (moraineref04_Walked.calls _ A0 c0 l0 _ _ _ _ (Kd.C_below HR.out HB1.out) HC.out HW.out)).mono ?_)
  rintro e w2 ⟨vo, rfl, ho, hb⟩
  obtain ⟨Ao, co, rfl, hlo, _⟩ := Kd.R_reads ho
  have HI2 := Aside0.mk (Kd.R_below HI.out hb)
  have HOP := Aside0.mk ho
  have HB2 := Aside0.mk (below_step HB1.out hb)
  have HE2 := Aside0.mk (show Boxed w2 w.heap.size 3 (.int .i64 early) from blk_below HE1.out hb)
  have HT2 := Aside0.mk (show Boxed w2 (w.heap.size + 1) 4 (.bool false) from blk_below HT1.out hb)
  clear ho hb HI HE1 HT1
  gi_wp2_with fail
  refine ⟨trivial, ?_⟩
  obtain ⟨W3, hW3⟩ : ∃ W3, (w2.alloc (.cells #[.int .u64 q] 32)).alloc (.cells #[.slice Ao L.length co] 22) = W3 := ⟨_, rfl⟩
  have hb3 : Below w2.heap.size w2 W3 := by rw [← hW3]; exact below_alloc (below_alloc (Below.refl _ _) _) _
  have hs3 : Boxed W3 w2.heap.size 32 (.int .u64 q) := by rw [← hW3]; exact (Boxed.new w2 32 (.int .u64 q)).alloc _
  have ho3 : Boxed W3 (w2.heap.size + 1) 22 (.slice Ao L.length co) := by
    have := Boxed.new (w2.alloc (.cells #[.int .u64 q] 32)) 22 (.slice Ao L.length co)
    rw [World.size_alloc] at this
    rw [← hW3]; exact this
  rw [hW3]
  have hC3 : Kd.C (Kd.int .u8) W3 (some ⟨gi, 0, none⟩) l0.length l0 := C_prefix (ys := [90]) (by simpa using (Kd.R_reads' (Kd.R_below HI2.out hb3)).2.2)
  (with_reducible refine (callsIn_wide.2 (walk_calls gi ci l0 W3 hC3 HLN2.out)).mono ?_)
  rintro e w4 ⟨vc, rfl, hn4, hc4, hb4⟩
  obtain ⟨Ac, cc, rfl, hlc, _⟩ := Kd.R_reads hc4
  have hb2 := HB2.out
  have HWS := Aside0.mk (show WS w w4 early q w2.heap.size (w2.heap.size + 1) W3.heap.size gi ci l0.length Ao Ac co cc L l0 (l0 ++ [90]) from
    ⟨below_step (below_step hb2 hb3) hb4, blk_below (blk_below HE2.out hb3) hb4, blk_below (blk_below HT2.out hb3) hb4, blk_below hs3 hb4, blk_below ho3 hb4, Kd.R_lower (Kd.R_below (Kd.R_below HOP.out hb3) hb4) HB1.out.size, hn4,
      Kd.R_lower (Kd.R_mono (Kd.R_bound hc4) (fun k hk e => by have h1 := Kd.R_lt HI2.out gi rfl; have h2 := hb3.size; have h3 := hk.2.1; omega)) (by have h2 := hb3.size; have := hb2.size; omega), Kd.R_lower (Kd.R_mono (Kd.R_below (Kd.R_below HI2.out hb3) hb4) (fun _ _ => trivial)) (by have := HB0.out.size; omega), by simp⟩)
  clear hb3 hs3 ho3 hW3 hC3 hn4 hc4 hb4 hb2 HI2 HOP HB2 HE2 HT2
  generalize W3.heap.size = Bn at *
  have hcmp : ∀ (lb : Array Value) (X : World), (binOp .eql 69 (.func (.func 69) #[] lb) .nilFunc).run Try.prog X = .ok (.bool false) X := by
    intro lb X
    first | rfl | (simp [binOp, go_sem]; done) | (unfold binOp; simp [go_sem, Try.underlying69]; done)
  gi_wp2_with fail
  refine ⟨trivial, ?_⟩
  (with_reducible refine (callsIn_wide.2 (morainelaw04_works.calls 13 true _ (works_true 13 (Nat.le_refl _)))).mono ?_)
  rintro e w5 ⟨rfl, hb5⟩
  have HWS := Aside0.mk (HWS.out.later hb5)
  clear hb5 hcmp
  gi_wp2_with fail
  obtain ⟨W6, hW6⟩ : ∃ W6, w5.alloc (.cells #[.int .i64 0] 3) = W6 := ⟨_, rfl⟩
  have HRB := Aside0.mk (show Boxed W6 w5.heap.size 3 (.int .i64 0) by rw [← hW6]; exact Boxed.new _ _ _)
  have HWS := Aside0.mk (HWS.out.later (Y := W6) (by rw [← hW6]; exact below_alloc (Below.refl _ _) _))
  have HWS6 := HWS
  rw [hW6]
  clear hW6
  have hBR := HRB.out.lt
  generalize w5.heap.size = B0 at *
  refine wpIn_loop_rounds 3 ?_
  rw [roundsIn_succ]
  have cr0 := HRB.out.cell
  gi_wp2_with fail
  obtain ⟨Y0, hY0⟩ : ∃ Y0, W6.alloc (.cells #[.int .i64 0] 3) = Y0 := ⟨_, rfl⟩
  have z8 : Y0.heap.size = W6.heap.size + 1 := by rw [← hY0, World.size_alloc]
  have hb8 : Below W6.heap.size W6 Y0 := by rw [← hY0]; exact below_alloc (Below.refl _ _) _
  have hi8 : Boxed Y0 W6.heap.size 3 (.int .i64 0) := by rw [← hY0]; exact Boxed.new _ _ _
  have HW8 := Aside0.mk (HWS.out.later hb8)
  rw [hY0]
  clear hY0 cr0
  refine rich_range2 (n := 4) (F := Fence.wide) 2 rfl (by decide) (gf := 69) (lb := #[.pointer (some ⟨Bn, 0, none⟩)]) rfl trivial (enters_of Try.func69 (by kernel_rfl) rfl)
    (walk1_rich Bn Ac cc l0 (fun k => k = W6.heap.size) Y0 HY.out HLN3.out hlc ?rc ?rb ?ra ?rv ?rl) ?rl2 (Below.refl _ _) (fun _ => rfl)
    (walksI W6.heap.size W6) (fun pre X => (pre.length : Int) = early ∧ walksI W6.heap.size W6 pre X) (walksI_own _ _ _ (by omega)) ?ownx ⟨hi8, hb8⟩ (walksAx (.pointer (some ⟨w.heap.size, 0, none⟩)) (.pointer (some ⟨w2.heap.size, 0, none⟩)) (.pointer (some ⟨w2.heap.size + 1, 0, none⟩)) (.pointer (some ⟨B0, 0, none⟩)) (.pointer (some ⟨W6.heap.size, 0, none⟩)) Y0.heap.size) ?ax ?assign ?body ?done
  case rc => exact (Kd.R_reads' HW8.out.cl).2.2
  case rb => exact HW8.out.nb
  case ra =>
    intro ad e
    have := (R_rowat HWS.out.cl ad e).1
    exact ⟨by omega, by omega⟩
  case rv => have := HWS.out.nb.lt; omega
  case rl => rintro k rfl; omega
  case rl2 => rintro k rfl; omega
  case ownx =>
    rintro pre X Y row ⟨h1, h3⟩ hg hr
    exact ⟨h1, walksI_own _ _ _ (by omega) pre X Y row h3 hg hr⟩
  case ax =>
    rintro x a' _ X Y row ⟨Bx, u, h1, h2, h3⟩ hg hr
    exact ⟨Bx, u, h1, cells_own Bx _ _ X Y row h2 hg (fun r e => (hr r e).2), h3⟩
  case assign =>
    rintro pre x X K hX ⟨h1, h2⟩ hK
    simp only [encW]
    gi_wp2
    exact hK _ _ (Leave.alloc X _) ⟨h1.alloc _, below_alloc h2 _⟩ (walksAx_of X.heap.size (by omega) (World.alloc_heap_new X _) rfl)
  case body =>
    rintro pre x a' X hX hr ⟨hbi, hbl⟩ ⟨Bx, u, hBx, hbx, rfl⟩ hpre
    obtain ⟨hpa, hpl⟩ := pre_at hpre
    have hx1 := HNUM.out _ _ hpa
    have hx2 : L[pre.length]? = some x.2.1 := by rw [HLL.out]; unfold opsOf04; rw [List.getElem?_map, hpa]; rfl
    have hws := HWS.out.later hbl
    have hrb : Boxed X B0 3 (.int .i64 0) := blk_below HRB.out hbl
    have hlg := HLG.out
    have hpl2 := HGL.out
    obtain ⟨ad, hA, a0, a1, a2⟩ := at_T65 (Kd.R_reads' hws.op).2.2 (pre.length : Int) (by omega) (by omega)
    have hrd : rd_T65 L (pre.length : Int) = x.2.1 := by unfold rd_T65; rw [Int.toNat_natCast, List.getD_eq_getElem?_getD, hx2]; rfl
    rw [hrd, Int.toNat_natCast] at a0 a1 a2
    have ck1 := hbi.cell
    have ck2 := hbi.frozen
    have ck3 := hws.e.cell
    have ck4 := hws.s.cell
    have ck5 := hws.o.cell
    have ck6 := hrb.cell
    subst hA
    obtain ⟨x1, ⟨y0, y1, y2⟩, x2⟩ := x
    dsimp only at hx1 a0 a1 a2 hbx
    subst hx1
    have b0 : X.cell? ⟨Bx, 0, none⟩ = some (.int .i64 y0) := by simp [World.cell?, hbx]
    have b1 : X.cell? ⟨Bx, 1, none⟩ = some (.string y1) := by simp [World.cell?, hbx]
    have b2 : X.cell? ⟨Bx, 2, none⟩ = some (.string y2) := by simp [World.cell?, hbx]
    have ne1 : w.heap.size ≠ W6.heap.size := by have := HWS.out.e.lt; omega
    have ne2 : B0 ≠ W6.heap.size := by have := HRB.out.lt; omega
    have HNX := Aside0.mk (show ∀ nq, Leave (fun k => k = W6.heap.size) X ((X.drewN nq).setCell ⟨W6.heap.size, 0, none⟩ (.int .i64 ((pre.length : Int) + 1))) ∧ walksI W6.heap.size W6 (pre ++ [(IntKind.u64.wrap (q + (pre.length : Int)), ⟨y0, y1, y2⟩, x2)]) ((X.drewN nq).setCell ⟨W6.heap.size, 0, none⟩ (.int .i64 ((pre.length : Int) + 1))) from fun nq =>
      ⟨(Leave.below (pw_below_drewN (Below.refl _ _) nq)).trans (Leave.set _ _ rfl), by
        have h := Boxed.set (.int .i64 ((pre.length : Int) + 1)) (show Boxed (X.drewN nq) W6.heap.size 3 (.int .i64 (pre.length : Int)) from hbi)
        rw [show ((pre ++ [(IntKind.u64.wrap (q + (pre.length : Int)), (⟨y0, y1, y2⟩ : Op04), x2)]).length : Int) = (pre.length : Int) + 1 by simp]
        exact h, below_set (pw_below_drewN hbl nq) (Nat.le_refl _)⟩)
    have hlx : ((pre ++ [(IntKind.u64.wrap (q + (pre.length : Int)), (⟨y0, y1, y2⟩ : Op04), x2)]).length : Int) = (pre.length : Int) + 1 := by simp
    have HLX := Aside0.mk hlx
    have ck7 : ∀ nq v, ((X.drewN nq).setCell ⟨W6.heap.size, 0, none⟩ v).cell? ⟨w.heap.size, 0, none⟩ = some (.int .i64 early) := fun nq v => Boxed.cell (Boxed.other (show Boxed (X.drewN nq) _ _ _ from hws.e) ne1 v)
    have ck8 : ∀ nq v, ((X.drewN nq).setCell ⟨W6.heap.size, 0, none⟩ v).cell? ⟨B0, 0, none⟩ = some (.int .i64 0) := fun nq v => Boxed.cell (Boxed.other (show Boxed (X.drewN nq) _ _ _ from hrb) ne2 v)
    have d1 : decide ((pre.length : Int) ≥ (L.length : Int)) = false := decide_eq_false (by omega)
    have p1 : (pre.length : Int) < (L.length : Int) := by omega
    have p2 : pre.length < L.length := by omega
    have d1' : decide (L.length ≤ pre.length) = false := decide_eq_false (by omega)
    have d2 : IntKind.u64.wrap (pre.length : Int) = (pre.length : Int) := by rw [Go.IntKind.wrap_u64]; omega
    have d3 : wrap64 ((pre.length : Int) + 1) = (pre.length : Int) + 1 := by unfold wrap64; omega
    clear hpre hpa hpl hx2 hrd hbx hws hrb hlg hpl2 hbl hr hX hBx hbi hlx
    generalize pre.length = m at *
    unfold fr96
    gi_wp2
    refine region_quiet_round rfl (by kernel_rfl) (by kernel_rfl) (by kernel_rfl) ?_
    repeat (gi_big_quiet_step (fail))
    refine wpQuietIn_nil ?_
    intro _ hw'
    obtain ⟨nq, hw''⟩ := hw'
    subst hw''
    by_cases hbr : (m : Int) + 1 = early
    · have q1 : ((m : Int) + 1 == early) = true := by simpa using hbr
      have HBR := Aside0.mk hbr
      clear hbr
      gi_wp2
      exact ⟨(HNX.out nq).1, rfl, by rw [HLX.out]; exact HBR.out, (HNX.out nq).2⟩
    · have q1 : ((m : Int) + 1 == early) = false := by simpa using hbr
      clear hbr
      gi_wp2
      exact HNX.out nq
  case done =>
    rintro e X he hE hK
    obtain ⟨cnt, hbi, hbl, hcn⟩ : ∃ cnt : Nat, Boxed X W6.heap.size 3 (.int .i64 (cnt : Int)) ∧ Below W6.heap.size W6 X ∧ (cnt = L.length ∨ 0 = 0 ∧ (cnt : Int) = early) := by
      rcases hE with ⟨xs, rfl, h1, h2⟩ | ⟨pre, hp, h0, h1, h2⟩
      · exact ⟨_, h1, h2, .inl HLG.out.symm⟩
      · exact ⟨_, h1, h2, .inr ⟨rfl, h0⟩⟩
    refine both_ways he ?_
    rw [z8]
    have HWS := Aside0.mk (HWS.out.later hbl)
    have HRB := Aside0.mk (show Boxed X B0 3 (.int .i64 0) from blk_below HRB.out hbl)
    rw [z8] at hK
    have HK0 := Aside0.mk hK
    have HZW := Aside0.mk (show w.heap.size + 1 < W6.heap.size from HWS6.out.t.lt)
    have ck1 := hbi.cell
    have ck3 := HWS.out.e.cell
    have ck5 := HWS.out.o.cell
    have ck6 := HRB.out.cell
    clear he hE hbi hbl hK HW8 hi8 hb8
    clear z8
    generalize W6.heap.size = Bi0 at *
    by_cases hc : cnt = L.length
    · subst hc
      clear hcn
      gi_wp2
      gi_loopw [14] (fun v14 wr => ∃ (j : Nat) (xs : List Int), v14 = .int .i64 (j : Int) ∧ j ≤ l0.length ∧ Aside0 (WS w wr early q w2.heap.size (w2.heap.size + 1) Bn gi ci l0.length Ao Ac co cc L l0 xs) ∧ Aside0 (Boxed wr B0 3 (.int .i64 0)) ∧ Aside0 (wr.heap[Bi0 + 1]? = some (.deferred (some [])))) (fun v14 _ => l0.length - (intOf v14).toNat)
      case atStart => exact ⟨0, _, rfl, by omega, HWS, HRB, HK0⟩
      case round =>
        clear HWS HRB HK0
        obtain ⟨j, ys, rfl, hjn, HWS, HRB, HK0⟩ := hrel
        by_cases hlt : j < l0.length
        · have p1 : decide ((j : Int) < (l0.length : Int)) = true := decide_eq_true (by omega)
          have p2 : decide (j < l0.length) = true := decide_eq_true hlt
          obtain ⟨hx, hf⟩ := Kd.R_celln 0 HWS.out.inn (j : Int) (by omega) (by omega)
          rw [Int.toNat_natCast] at hx hf
          obtain ⟨v, hv⟩ : ∃ v, rdOf 0 ys (j : Int) = v := ⟨_, rfl⟩
          rw [hv] at hx
          replace hx : wr.cell? ⟨gi, j, none⟩ = some (.int .u8 v) := hx
          have d3 : wrap64 ((j : Int) + 1) = ((j + 1 : Nat) : Int) := by have := HLN.out; unfold wrap64; omega
          have HWS2 := Aside0.mk (HWS.out.put j ((v + 1) % 256))
          obtain ⟨gcells, hgc⟩ := row_type HWS.out.inn
          have HRB2 := Aside0.mk (show Boxed (wr.setCell ⟨gi, j, none⟩ (.int .u8 ((v + 1) % 256))) B0 3 (.int .i64 0) from blk_far HRB.out hgc (by decide) j _)
          have HKN0 := Aside0.mk (dfr_far (j := j) (v := .int .u8 ((v + 1) % 256)) HK0.out hgc)
          clear hv hgc
          gi_wp2
          go_roundw
          case rel => exact ⟨j + 1, _, congrArg (Value.int .i64) d3, hlt, HWS2, HRB2, HKN0⟩
          case measure =>
            rw [d3]
            show l0.length - ((j + 1 : Nat) : Int).toNat < l0.length - (j : Int).toNat
            rw [Int.toNat_natCast, Int.toNat_natCast]
            exact Nat.sub_lt_sub_left hlt (Nat.lt_succ_self j)
        · have p1 : decide ((j : Int) < (l0.length : Int)) = false := decide_eq_false (by omega)
          have p2 : decide (j < l0.length) = false := decide_eq_false hlt
          have ck6 := HRB.out.cell
          clear hjn
          gi_wp2
          obtain ⟨W7, hW7⟩ : ∃ W7, wr.alloc (.cells #[.int .i64 1] 3) = W7 := ⟨_, rfl⟩
          have hb7 : Below wr.heap.size wr W7 := by rw [← hW7]; exact below_alloc (Below.refl _ _) _
          have HWS := Aside0.mk (HWS.out.later hb7)
          have HRB := Aside0.mk (show Boxed W7 wr.heap.size 3 (.int .i64 1) by rw [← hW7]; exact Boxed.new _ _ _)
          have HK0 := Aside0.mk (blk_below HK0.out hb7)
          rw [hW7]
          clear hW7 hb7 ck6 p1 p2 hlt
          generalize wr.heap.size = B1 at *
          rw [roundsIn_succ]
          have HK0' := HK0
          have cr1 := HRB.out.cell
          gi_wp2_with fail
          obtain ⟨Y0, hY0⟩ : ∃ Y0, W7.alloc (.cells #[.int .i64 0] 3) = Y0 := ⟨_, rfl⟩
          have z8 : Y0.heap.size = W7.heap.size + 1 := by rw [← hY0, World.size_alloc]
          have hb8 : Below W7.heap.size W7 Y0 := by rw [← hY0]; exact below_alloc (Below.refl _ _) _
          have hi8 : Boxed Y0 W7.heap.size 3 (.int .i64 0) := by rw [← hY0]; exact Boxed.new _ _ _
          have HW8 := Aside0.mk (HWS.out.later hb8)
          rw [hY0]
          clear hY0 cr1
          refine rich_range2 (n := 4) (F := Fence.wide) 2 rfl (by decide) (gf := 69) (lb := #[.pointer (some ⟨Bn, 0, none⟩)]) rfl trivial (enters_of Try.func69 (by kernel_rfl) rfl)
            (walk1_rich Bn Ac cc l0 (fun k => k = W7.heap.size) Y0 HY.out HLN3.out hlc ?rc ?rb ?ra ?rv ?rl) ?rl2 (Below.refl _ _) (fun _ => rfl)
            (walksI W7.heap.size W7) (fun pre X => False ∧ walksI W7.heap.size W7 pre X) (walksI_own _ _ _ (by omega)) ?ownx ⟨hi8, hb8⟩ (walksAx (.pointer (some ⟨w.heap.size, 0, none⟩)) (.pointer (some ⟨w2.heap.size, 0, none⟩)) (.pointer (some ⟨w2.heap.size + 1, 0, none⟩)) (.pointer (some ⟨B1, 0, none⟩)) (.pointer (some ⟨W7.heap.size, 0, none⟩)) Y0.heap.size) ?ax ?assign ?body ?done
          case rc => exact (Kd.R_reads' HW8.out.cl).2.2
          case rb => exact HW8.out.nb
          case ra =>
            intro ad e
            have := (R_rowat HWS.out.cl ad e).1
            exact ⟨by omega, by omega⟩
          case rv => have := HWS.out.nb.lt; omega
          case rl => rintro k rfl; omega
          case rl2 => rintro k rfl; omega
          case ownx =>
            rintro pre X Y row ⟨h1, h3⟩ hg hr
            exact ⟨h1, walksI_own _ _ _ (by omega) pre X Y row h3 hg hr⟩
          case ax =>
            rintro x a' _ X Y row ⟨Bx, u, h1, h2, h3⟩ hg hr
            exact ⟨Bx, u, h1, cells_own Bx _ _ X Y row h2 hg (fun r e => (hr r e).2), h3⟩
          case assign =>
            rintro pre x X K hX ⟨h1, h2⟩ hK
            simp only [encW]
            gi_wp2
            exact hK _ _ (Leave.alloc X _) ⟨h1.alloc _, below_alloc h2 _⟩ (walksAx_of X.heap.size (by omega) (World.alloc_heap_new X _) rfl)
          case body =>
            rintro pre x a' X hX hr ⟨hbi, hbl⟩ ⟨Bx, u, hBx, hbx, rfl⟩ hpre
            obtain ⟨hpa, hpl⟩ := pre_at hpre
            have hx1 := HNUM.out _ _ hpa
            have hx2 : L[pre.length]? = some x.2.1 := by rw [HLL.out]; unfold opsOf04; rw [List.getElem?_map, hpa]; rfl
            have hws := HWS.out.later hbl
            have hrb : Boxed X B1 3 (.int .i64 1) := blk_below HRB.out hbl
            have hlg := HLG.out
            have hpl2 := HGL.out
            obtain ⟨ad, hA, a0, a1, a2⟩ := at_T65 (Kd.R_reads' hws.op).2.2 (pre.length : Int) (by omega) (by omega)
            have hrd : rd_T65 L (pre.length : Int) = x.2.1 := by unfold rd_T65; rw [Int.toNat_natCast, List.getD_eq_getElem?_getD, hx2]; rfl
            rw [hrd, Int.toNat_natCast] at a0 a1 a2
            have ck1 := hbi.cell
            have ck2 := hbi.frozen
            have ck3 := hws.e.cell
            have ck4 := hws.s.cell
            have ck5 := hws.o.cell
            have ck6 := hrb.cell
            subst hA
            obtain ⟨x1, ⟨y0, y1, y2⟩, x2⟩ := x
            dsimp only at hx1 a0 a1 a2 hbx
            subst hx1
            have b0 : X.cell? ⟨Bx, 0, none⟩ = some (.int .i64 y0) := by simp [World.cell?, hbx]
            have b1 : X.cell? ⟨Bx, 1, none⟩ = some (.string y1) := by simp [World.cell?, hbx]
            have b2 : X.cell? ⟨Bx, 2, none⟩ = some (.string y2) := by simp [World.cell?, hbx]
            have ne1 : w.heap.size ≠ W7.heap.size := by have := HWS.out.e.lt; omega
            have ne2 : B1 ≠ W7.heap.size := by have := HRB.out.lt; omega
            have HNX := Aside0.mk (show ∀ nq, Leave (fun k => k = W7.heap.size) X ((X.drewN nq).setCell ⟨W7.heap.size, 0, none⟩ (.int .i64 ((pre.length : Int) + 1))) ∧ walksI W7.heap.size W7 (pre ++ [(IntKind.u64.wrap (q + (pre.length : Int)), ⟨y0, y1, y2⟩, x2)]) ((X.drewN nq).setCell ⟨W7.heap.size, 0, none⟩ (.int .i64 ((pre.length : Int) + 1))) from fun nq =>
              ⟨(Leave.below (pw_below_drewN (Below.refl _ _) nq)).trans (Leave.set _ _ rfl), by
                have h := Boxed.set (.int .i64 ((pre.length : Int) + 1)) (show Boxed (X.drewN nq) W7.heap.size 3 (.int .i64 (pre.length : Int)) from hbi)
                rw [show ((pre ++ [(IntKind.u64.wrap (q + (pre.length : Int)), (⟨y0, y1, y2⟩ : Op04), x2)]).length : Int) = (pre.length : Int) + 1 by simp]
                exact h, below_set (pw_below_drewN hbl nq) (Nat.le_refl _)⟩)
            have hlx : ((pre ++ [(IntKind.u64.wrap (q + (pre.length : Int)), (⟨y0, y1, y2⟩ : Op04), x2)]).length : Int) = (pre.length : Int) + 1 := by simp
            have HLX := Aside0.mk hlx
            have ck7 : ∀ nq v, ((X.drewN nq).setCell ⟨W7.heap.size, 0, none⟩ v).cell? ⟨w.heap.size, 0, none⟩ = some (.int .i64 early) := fun nq v => Boxed.cell (Boxed.other (show Boxed (X.drewN nq) _ _ _ from hws.e) ne1 v)
            have ck8 : ∀ nq v, ((X.drewN nq).setCell ⟨W7.heap.size, 0, none⟩ v).cell? ⟨B1, 0, none⟩ = some (.int .i64 1) := fun nq v => Boxed.cell (Boxed.other (show Boxed (X.drewN nq) _ _ _ from hrb) ne2 v)
            have d1 : decide ((pre.length : Int) ≥ (L.length : Int)) = false := decide_eq_false (by omega)
            have p1 : (pre.length : Int) < (L.length : Int) := by omega
            have p2 : pre.length < L.length := by omega
            have d1' : decide (L.length ≤ pre.length) = false := decide_eq_false (by omega)
            have d2 : IntKind.u64.wrap (pre.length : Int) = (pre.length : Int) := by rw [Go.IntKind.wrap_u64]; omega
            have d3 : wrap64 ((pre.length : Int) + 1) = (pre.length : Int) + 1 := by unfold wrap64; omega
            clear hpre hpa hpl hx2 hrd hbx hws hrb hlg hpl2 hbl hr hX hBx hbi hlx
            generalize pre.length = m at *
            unfold fr96
            gi_wp2
            refine region_quiet_round rfl (by kernel_rfl) (by kernel_rfl) (by kernel_rfl) ?_
            repeat (gi_big_quiet_step (fail))
            refine wpQuietIn_nil ?_
            intro _ hw'
            obtain ⟨nq, hw''⟩ := hw'
            subst hw''
            gi_wp2
            exact HNX.out nq
          case done =>
            rintro e X he hE hK
            obtain ⟨cnt, hbi, hbl, hcn⟩ : ∃ cnt : Nat, Boxed X W7.heap.size 3 (.int .i64 (cnt : Int)) ∧ Below W7.heap.size W7 X ∧ (cnt = L.length ∨ 1 = 0 ∧ (cnt : Int) = early) := by
              rcases hE with ⟨xs, rfl, h1, h2⟩ | ⟨pre, hp, h0, h1, h2⟩
              · exact ⟨_, h1, h2, .inl HLG.out.symm⟩
              · exact h0.elim
            refine both_ways he ?_
            rw [z8]
            have HWS := Aside0.mk (HWS.out.later hbl)
            have HRB := Aside0.mk (show Boxed X B1 3 (.int .i64 1) from blk_below HRB.out hbl)
            rw [z8] at hK
            have HK1 := Aside0.mk hK
            have HK0 := Aside0.mk (blk_below HK0.out hbl)
            have HLT := Aside0.mk (blk_lt HK0'.out)
            have ck1 := hbi.cell
            have ck3 := HWS.out.e.cell
            have ck5 := HWS.out.o.cell
            have ck6 := HRB.out.cell
            clear he hE hbi hbl hK HW8 hi8 hb8
            clear z8
            generalize W7.heap.size = Bi1 at *
            obtain rfl : cnt = L.length := hcn.resolve_right (fun h => absurd h.1 (by decide))
            clear hcn
            gi_wp2
            gi_loopw [14] (fun v14 wr => ∃ (j : Nat) (xs : List Int), v14 = .int .i64 (j : Int) ∧ j ≤ l0.length ∧ Aside0 (WS w wr early q w2.heap.size (w2.heap.size + 1) Bn gi ci l0.length Ao Ac co cc L l0 xs) ∧ Aside0 (Boxed wr B1 3 (.int .i64 1)) ∧ Aside0 (wr.heap[Bi0 + 1]? = some (.deferred (some []))) ∧ Aside0 (wr.heap[Bi1 + 1]? = some (.deferred (some [])))) (fun v14 _ => l0.length - (intOf v14).toNat)
            case atStart => exact ⟨0, _, rfl, by omega, HWS, HRB, HK0, HK1⟩
            case round =>
              clear HWS HRB HK0 HK1
              obtain ⟨j, ys, rfl, hjn, HWS, HRB, HK0, HK1⟩ := hrel
              by_cases hlt : j < l0.length
              · have p1 : decide ((j : Int) < (l0.length : Int)) = true := decide_eq_true (by omega)
                have p2 : decide (j < l0.length) = true := decide_eq_true hlt
                obtain ⟨hx, hf⟩ := Kd.R_celln 0 HWS.out.inn (j : Int) (by omega) (by omega)
                rw [Int.toNat_natCast] at hx hf
                obtain ⟨v, hv⟩ : ∃ v, rdOf 0 ys (j : Int) = v := ⟨_, rfl⟩
                rw [hv] at hx
                replace hx : wr.cell? ⟨gi, j, none⟩ = some (.int .u8 v) := hx
                have d3 : wrap64 ((j : Int) + 1) = ((j + 1 : Nat) : Int) := by have := HLN.out; unfold wrap64; omega
                have HWS2 := Aside0.mk (HWS.out.put j ((v + 1) % 256))
                obtain ⟨gcells, hgc⟩ := row_type HWS.out.inn
                have HRB2 := Aside0.mk (show Boxed (wr.setCell ⟨gi, j, none⟩ (.int .u8 ((v + 1) % 256))) B1 3 (.int .i64 1) from blk_far HRB.out hgc (by decide) j _)
                have HKN0 := Aside0.mk (dfr_far (j := j) (v := .int .u8 ((v + 1) % 256)) HK0.out hgc)
                have HKN1 := Aside0.mk (dfr_far (j := j) (v := .int .u8 ((v + 1) % 256)) HK1.out hgc)
                clear hv hgc
                gi_wp2
                go_roundw
                case rel => exact ⟨j + 1, _, congrArg (Value.int .i64) d3, hlt, HWS2, HRB2, HKN0, HKN1⟩
                case measure =>
                  rw [d3]
                  show l0.length - ((j + 1 : Nat) : Int).toNat < l0.length - (j : Int).toNat
                  rw [Int.toNat_natCast, Int.toNat_natCast]
                  exact Nat.sub_lt_sub_left hlt (Nat.lt_succ_self j)
              · have p1 : decide ((j : Int) < (l0.length : Int)) = false := decide_eq_false (by omega)
                have p2 : decide (j < l0.length) = false := decide_eq_false hlt
                have ck6 := HRB.out.cell
                clear hjn
                gi_wp2
                obtain ⟨W8, hW8⟩ : ∃ W8, wr.alloc (.cells #[.int .i64 2] 3) = W8 := ⟨_, rfl⟩
                have hb8 : Below wr.heap.size wr W8 := by rw [← hW8]; exact below_alloc (Below.refl _ _) _
                have HWS := Aside0.mk (HWS.out.later hb8)
                have HRB := Aside0.mk (show Boxed W8 wr.heap.size 3 (.int .i64 2) by rw [← hW8]; exact Boxed.new _ _ _)
                have HK0 := Aside0.mk (blk_below HK0.out hb8)
                have HK1 := Aside0.mk (blk_below HK1.out hb8)
                rw [hW8]
                clear hW8 hb8 ck6 p1 p2 hlt
                generalize wr.heap.size = B2 at *
                rw [roundsIn_succ]
                have ck6 := HRB.out.cell
                have ckt := HWS.out.t.cell
                have ckf := HWS.out.t.frozen
                gi_wp2
                have hk1 := dfr_far (j := 0) (v := .bool true) HK1.out HWS.out.t
                have hk0 := dfr_far (j := 0) (v := .bool true) HK0.out HWS.out.t
                have hlt2 := HLT.out
                have hb8 := below_set (j := 0) (v := .bool true) HWS.out.below (Nat.le_succ w.heap.size)
                have ht8 := Boxed.set (.bool true) HWS.out.t
                refine ⟨by simp, .inl ⟨_, _, rfl, run_takeDeferred hk1, ?_⟩⟩
                have hk0' := (World.putObj_heap_other (o := .deferred none) (show Bi0 + 1 ≠ Bi1 + 1 by omega)).trans hk0
                refine ⟨by simp, .inl ⟨_, _, rfl, run_takeDeferred hk0', ?_⟩⟩
                have hz := HZW.out
                have hb9 := hb8.trans (belowK_b (w := w) (Nat.le_refl _) _ _ _ (.deferred none) (show w.heap.size ≤ Bi1 + 1 by omega) hk1 rfl rfl)
                have hb10 := hb9.trans (belowK_b (w := w) (Nat.le_refl _) _ _ _ (.deferred none) (show w.heap.size ≤ Bi0 + 1 by omega) hk0' rfl rfl)
                exact ⟨_, results_c rfl _ _ (w.heap.size + 1) (.bool true) rfl (Boxed.cell ((Boxed.kept (Boxed.kept ht8 (grownBy_putObj' _ _ _) (by simp; omega)) (grownBy_putObj' _ _ _) (by simp; omega)))) Try.underlying4, rfl, hb10⟩
    · have hce : (cnt : Int) = early := (hcn.resolve_left hc).2
      have q1 : ((cnt : Int) != (L.length : Int)) = true := by simp; omega
      have q0 : (cnt != L.length) = true := by simpa using hc
      have q2 : ((cnt : Int) == early) = true := beq_iff_eq.2 hce
      clear hcn hce hc
      gi_wp2
      gi_loopw [14] (fun v14 wr => ∃ (j : Nat) (xs : List Int), v14 = .int .i64 (j : Int) ∧ j ≤ l0.length ∧ Aside0 (WS w wr early q w2.heap.size (w2.heap.size + 1) Bn gi ci l0.length Ao Ac co cc L l0 xs) ∧ Aside0 (Boxed wr B0 3 (.int .i64 0)) ∧ Aside0 (wr.heap[Bi0 + 1]? = some (.deferred (some [])))) (fun v14 _ => l0.length - (intOf v14).toNat)
      case atStart => exact ⟨0, _, rfl, by omega, HWS, HRB, HK0⟩
      case round =>
        clear HWS HRB HK0
        obtain ⟨j, ys, rfl, hjn, HWS, HRB, HK0⟩ := hrel
        by_cases hlt : j < l0.length
        · have p1 : decide ((j : Int) < (l0.length : Int)) = true := decide_eq_true (by omega)
          have p2 : decide (j < l0.length) = true := decide_eq_true hlt
          obtain ⟨hx, hf⟩ := Kd.R_celln 0 HWS.out.inn (j : Int) (by omega) (by omega)
          rw [Int.toNat_natCast] at hx hf
          obtain ⟨v, hv⟩ : ∃ v, rdOf 0 ys (j : Int) = v := ⟨_, rfl⟩
          rw [hv] at hx
          replace hx : wr.cell? ⟨gi, j, none⟩ = some (.int .u8 v) := hx
          have d3 : wrap64 ((j : Int) + 1) = ((j + 1 : Nat) : Int) := by have := HLN.out; unfold wrap64; omega
          have HWS2 := Aside0.mk (HWS.out.put j ((v + 1) % 256))
          obtain ⟨gcells, hgc⟩ := row_type HWS.out.inn
          have HRB2 := Aside0.mk (show Boxed (wr.setCell ⟨gi, j, none⟩ (.int .u8 ((v + 1) % 256))) B0 3 (.int .i64 0) from blk_far HRB.out hgc (by decide) j _)
          have HKN0 := Aside0.mk (dfr_far (j := j) (v := .int .u8 ((v + 1) % 256)) HK0.out hgc)
          clear hv hgc
          gi_wp2
          go_roundw
          case rel => exact ⟨j + 1, _, congrArg (Value.int .i64) d3, hlt, HWS2, HRB2, HKN0⟩
          case measure =>
            rw [d3]
            show l0.length - ((j + 1 : Nat) : Int).toNat < l0.length - (j : Int).toNat
            rw [Int.toNat_natCast, Int.toNat_natCast]
            exact Nat.sub_lt_sub_left hlt (Nat.lt_succ_self j)
        · have p1 : decide ((j : Int) < (l0.length : Int)) = false := decide_eq_false (by omega)
          have p2 : decide (j < l0.length) = false := decide_eq_false hlt
          have ck6 := HRB.out.cell
          clear hjn
          gi_wp2
          obtain ⟨W7, hW7⟩ : ∃ W7, wr.alloc (.cells #[.int .i64 1] 3) = W7 := ⟨_, rfl⟩
          have hb7 : Below wr.heap.size wr W7 := by rw [← hW7]; exact below_alloc (Below.refl _ _) _
          have HWS := Aside0.mk (HWS.out.later hb7)
          have HRB := Aside0.mk (show Boxed W7 wr.heap.size 3 (.int .i64 1) by rw [← hW7]; exact Boxed.new _ _ _)
          have HK0 := Aside0.mk (blk_below HK0.out hb7)
          rw [hW7]
          clear hW7 hb7 ck6 p1 p2 hlt
          generalize wr.heap.size = B1 at *
          rw [roundsIn_succ]
          have HK0' := HK0
          have cr1 := HRB.out.cell
          gi_wp2_with fail
          obtain ⟨Y0, hY0⟩ : ∃ Y0, W7.alloc (.cells #[.int .i64 0] 3) = Y0 := ⟨_, rfl⟩
          have z8 : Y0.heap.size = W7.heap.size + 1 := by rw [← hY0, World.size_alloc]
          have hb8 : Below W7.heap.size W7 Y0 := by rw [← hY0]; exact below_alloc (Below.refl _ _) _
          have hi8 : Boxed Y0 W7.heap.size 3 (.int .i64 0) := by rw [← hY0]; exact Boxed.new _ _ _
          have HW8 := Aside0.mk (HWS.out.later hb8)
          rw [hY0]
          clear hY0 cr1
          refine rich_range2 (n := 4) (F := Fence.wide) 2 rfl (by decide) (gf := 69) (lb := #[.pointer (some ⟨Bn, 0, none⟩)]) rfl trivial (enters_of Try.func69 (by kernel_rfl) rfl)
            (walk1_rich Bn Ac cc l0 (fun k => k = W7.heap.size) Y0 HY.out HLN3.out hlc ?rc ?rb ?ra ?rv ?rl) ?rl2 (Below.refl _ _) (fun _ => rfl)
            (walksI W7.heap.size W7) (fun pre X => False ∧ walksI W7.heap.size W7 pre X) (walksI_own _ _ _ (by omega)) ?ownx ⟨hi8, hb8⟩ (walksAx (.pointer (some ⟨w.heap.size, 0, none⟩)) (.pointer (some ⟨w2.heap.size, 0, none⟩)) (.pointer (some ⟨w2.heap.size + 1, 0, none⟩)) (.pointer (some ⟨B1, 0, none⟩)) (.pointer (some ⟨W7.heap.size, 0, none⟩)) Y0.heap.size) ?ax ?assign ?body ?done
          case rc => exact (Kd.R_reads' HW8.out.cl).2.2
          case rb => exact HW8.out.nb
          case ra =>
            intro ad e
            have := (R_rowat HWS.out.cl ad e).1
            exact ⟨by omega, by omega⟩
          case rv => have := HWS.out.nb.lt; omega
          case rl => rintro k rfl; omega
          case rl2 => rintro k rfl; omega
          case ownx =>
            rintro pre X Y row ⟨h1, h3⟩ hg hr
            exact ⟨h1, walksI_own _ _ _ (by omega) pre X Y row h3 hg hr⟩
          case ax =>
            rintro x a' _ X Y row ⟨Bx, u, h1, h2, h3⟩ hg hr
            exact ⟨Bx, u, h1, cells_own Bx _ _ X Y row h2 hg (fun r e => (hr r e).2), h3⟩
          case assign =>
            rintro pre x X K hX ⟨h1, h2⟩ hK
            simp only [encW]
            gi_wp2
            exact hK _ _ (Leave.alloc X _) ⟨h1.alloc _, below_alloc h2 _⟩ (walksAx_of X.heap.size (by omega) (World.alloc_heap_new X _) rfl)
          case body =>
            rintro pre x a' X hX hr ⟨hbi, hbl⟩ ⟨Bx, u, hBx, hbx, rfl⟩ hpre
            obtain ⟨hpa, hpl⟩ := pre_at hpre
            have hx1 := HNUM.out _ _ hpa
            have hx2 : L[pre.length]? = some x.2.1 := by rw [HLL.out]; unfold opsOf04; rw [List.getElem?_map, hpa]; rfl
            have hws := HWS.out.later hbl
            have hrb : Boxed X B1 3 (.int .i64 1) := blk_below HRB.out hbl
            have hlg := HLG.out
            have hpl2 := HGL.out
            obtain ⟨ad, hA, a0, a1, a2⟩ := at_T65 (Kd.R_reads' hws.op).2.2 (pre.length : Int) (by omega) (by omega)
            have hrd : rd_T65 L (pre.length : Int) = x.2.1 := by unfold rd_T65; rw [Int.toNat_natCast, List.getD_eq_getElem?_getD, hx2]; rfl
            rw [hrd, Int.toNat_natCast] at a0 a1 a2
            have ck1 := hbi.cell
            have ck2 := hbi.frozen
            have ck3 := hws.e.cell
            have ck4 := hws.s.cell
            have ck5 := hws.o.cell
            have ck6 := hrb.cell
            subst hA
            obtain ⟨x1, ⟨y0, y1, y2⟩, x2⟩ := x
            dsimp only at hx1 a0 a1 a2 hbx
            subst hx1
            have b0 : X.cell? ⟨Bx, 0, none⟩ = some (.int .i64 y0) := by simp [World.cell?, hbx]
            have b1 : X.cell? ⟨Bx, 1, none⟩ = some (.string y1) := by simp [World.cell?, hbx]
            have b2 : X.cell? ⟨Bx, 2, none⟩ = some (.string y2) := by simp [World.cell?, hbx]
            have ne1 : w.heap.size ≠ W7.heap.size := by have := HWS.out.e.lt; omega
            have ne2 : B1 ≠ W7.heap.size := by have := HRB.out.lt; omega
            have HNX := Aside0.mk (show ∀ nq, Leave (fun k => k = W7.heap.size) X ((X.drewN nq).setCell ⟨W7.heap.size, 0, none⟩ (.int .i64 ((pre.length : Int) + 1))) ∧ walksI W7.heap.size W7 (pre ++ [(IntKind.u64.wrap (q + (pre.length : Int)), ⟨y0, y1, y2⟩, x2)]) ((X.drewN nq).setCell ⟨W7.heap.size, 0, none⟩ (.int .i64 ((pre.length : Int) + 1))) from fun nq =>
              ⟨(Leave.below (pw_below_drewN (Below.refl _ _) nq)).trans (Leave.set _ _ rfl), by
                have h := Boxed.set (.int .i64 ((pre.length : Int) + 1)) (show Boxed (X.drewN nq) W7.heap.size 3 (.int .i64 (pre.length : Int)) from hbi)
                rw [show ((pre ++ [(IntKind.u64.wrap (q + (pre.length : Int)), (⟨y0, y1, y2⟩ : Op04), x2)]).length : Int) = (pre.length : Int) + 1 by simp]
                exact h, below_set (pw_below_drewN hbl nq) (Nat.le_refl _)⟩)
            have hlx : ((pre ++ [(IntKind.u64.wrap (q + (pre.length : Int)), (⟨y0, y1, y2⟩ : Op04), x2)]).length : Int) = (pre.length : Int) + 1 := by simp
            have HLX := Aside0.mk hlx
            have ck7 : ∀ nq v, ((X.drewN nq).setCell ⟨W7.heap.size, 0, none⟩ v).cell? ⟨w.heap.size, 0, none⟩ = some (.int .i64 early) := fun nq v => Boxed.cell (Boxed.other (show Boxed (X.drewN nq) _ _ _ from hws.e) ne1 v)
            have ck8 : ∀ nq v, ((X.drewN nq).setCell ⟨W7.heap.size, 0, none⟩ v).cell? ⟨B1, 0, none⟩ = some (.int .i64 1) := fun nq v => Boxed.cell (Boxed.other (show Boxed (X.drewN nq) _ _ _ from hrb) ne2 v)
            have d1 : decide ((pre.length : Int) ≥ (L.length : Int)) = false := decide_eq_false (by omega)
            have p1 : (pre.length : Int) < (L.length : Int) := by omega
            have p2 : pre.length < L.length := by omega
            have d1' : decide (L.length ≤ pre.length) = false := decide_eq_false (by omega)
            have d2 : IntKind.u64.wrap (pre.length : Int) = (pre.length : Int) := by rw [Go.IntKind.wrap_u64]; omega
            have d3 : wrap64 ((pre.length : Int) + 1) = (pre.length : Int) + 1 := by unfold wrap64; omega
            clear hpre hpa hpl hx2 hrd hbx hws hrb hlg hpl2 hbl hr hX hBx hbi hlx
            generalize pre.length = m at *
            unfold fr96
            gi_wp2
            refine region_quiet_round rfl (by kernel_rfl) (by kernel_rfl) (by kernel_rfl) ?_
            repeat (gi_big_quiet_step (fail))
            refine wpQuietIn_nil ?_
            intro _ hw'
            obtain ⟨nq, hw''⟩ := hw'
            subst hw''
            gi_wp2
            exact HNX.out nq
          case done =>
            rintro e X he hE hK
            obtain ⟨cnt, hbi, hbl, hcn⟩ : ∃ cnt : Nat, Boxed X W7.heap.size 3 (.int .i64 (cnt : Int)) ∧ Below W7.heap.size W7 X ∧ (cnt = L.length ∨ 1 = 0 ∧ (cnt : Int) = early) := by
              rcases hE with ⟨xs, rfl, h1, h2⟩ | ⟨pre, hp, h0, h1, h2⟩
              · exact ⟨_, h1, h2, .inl HLG.out.symm⟩
              · exact h0.elim
            refine both_ways he ?_
            rw [z8]
            have HWS := Aside0.mk (HWS.out.later hbl)
            have HRB := Aside0.mk (show Boxed X B1 3 (.int .i64 1) from blk_below HRB.out hbl)
            rw [z8] at hK
            have HK1 := Aside0.mk hK
            have HK0 := Aside0.mk (blk_below HK0.out hbl)
            have HLT := Aside0.mk (blk_lt HK0'.out)
            have ck1 := hbi.cell
            have ck3 := HWS.out.e.cell
            have ck5 := HWS.out.o.cell
            have ck6 := HRB.out.cell
            clear he hE hbi hbl hK HW8 hi8 hb8
            clear z8
            generalize W7.heap.size = Bi1 at *
            obtain rfl : cnt = L.length := hcn.resolve_right (fun h => absurd h.1 (by decide))
            clear hcn
            gi_wp2
            gi_loopw [14] (fun v14 wr => ∃ (j : Nat) (xs : List Int), v14 = .int .i64 (j : Int) ∧ j ≤ l0.length ∧ Aside0 (WS w wr early q w2.heap.size (w2.heap.size + 1) Bn gi ci l0.length Ao Ac co cc L l0 xs) ∧ Aside0 (Boxed wr B1 3 (.int .i64 1)) ∧ Aside0 (wr.heap[Bi0 + 1]? = some (.deferred (some []))) ∧ Aside0 (wr.heap[Bi1 + 1]? = some (.deferred (some [])))) (fun v14 _ => l0.length - (intOf v14).toNat)
            case atStart => exact ⟨0, _, rfl, by omega, HWS, HRB, HK0, HK1⟩
            case round =>
              clear HWS HRB HK0 HK1
              obtain ⟨j, ys, rfl, hjn, HWS, HRB, HK0, HK1⟩ := hrel
              by_cases hlt : j < l0.length
              · have p1 : decide ((j : Int) < (l0.length : Int)) = true := decide_eq_true (by omega)
                have p2 : decide (j < l0.length) = true := decide_eq_true hlt
                obtain ⟨hx, hf⟩ := Kd.R_celln 0 HWS.out.inn (j : Int) (by omega) (by omega)
                rw [Int.toNat_natCast] at hx hf
                obtain ⟨v, hv⟩ : ∃ v, rdOf 0 ys (j : Int) = v := ⟨_, rfl⟩
                rw [hv] at hx
                replace hx : wr.cell? ⟨gi, j, none⟩ = some (.int .u8 v) := hx
                have d3 : wrap64 ((j : Int) + 1) = ((j + 1 : Nat) : Int) := by have := HLN.out; unfold wrap64; omega
                have HWS2 := Aside0.mk (HWS.out.put j ((v + 1) % 256))
                obtain ⟨gcells, hgc⟩ := row_type HWS.out.inn
                have HRB2 := Aside0.mk (show Boxed (wr.setCell ⟨gi, j, none⟩ (.int .u8 ((v + 1) % 256))) B1 3 (.int .i64 1) from blk_far HRB.out hgc (by decide) j _)
                have HKN0 := Aside0.mk (dfr_far (j := j) (v := .int .u8 ((v + 1) % 256)) HK0.out hgc)
                have HKN1 := Aside0.mk (dfr_far (j := j) (v := .int .u8 ((v + 1) % 256)) HK1.out hgc)
                clear hv hgc
                gi_wp2
                go_roundw
                case rel => exact ⟨j + 1, _, congrArg (Value.int .i64) d3, hlt, HWS2, HRB2, HKN0, HKN1⟩
                case measure =>
                  rw [d3]
                  show l0.length - ((j + 1 : Nat) : Int).toNat < l0.length - (j : Int).toNat
                  rw [Int.toNat_natCast, Int.toNat_natCast]
                  exact Nat.sub_lt_sub_left hlt (Nat.lt_succ_self j)
              · have p1 : decide ((j : Int) < (l0.length : Int)) = false := decide_eq_false (by omega)
                have p2 : decide (j < l0.length) = false := decide_eq_false hlt
                have ck6 := HRB.out.cell
                clear hjn
                gi_wp2
                obtain ⟨W8, hW8⟩ : ∃ W8, wr.alloc (.cells #[.int .i64 2] 3) = W8 := ⟨_, rfl⟩
                have hb8 : Below wr.heap.size wr W8 := by rw [← hW8]; exact below_alloc (Below.refl _ _) _
                have HWS := Aside0.mk (HWS.out.later hb8)
                have HRB := Aside0.mk (show Boxed W8 wr.heap.size 3 (.int .i64 2) by rw [← hW8]; exact Boxed.new _ _ _)
                have HK0 := Aside0.mk (blk_below HK0.out hb8)
                have HK1 := Aside0.mk (blk_below HK1.out hb8)
                rw [hW8]
                clear hW8 hb8 ck6 p1 p2 hlt
                generalize wr.heap.size = B2 at *
                rw [roundsIn_succ]
                have ck6 := HRB.out.cell
                have ckt := HWS.out.t.cell
                have ckf := HWS.out.t.frozen
                gi_wp2
                have hk1 := dfr_far (j := 0) (v := .bool true) HK1.out HWS.out.t
                have hk0 := dfr_far (j := 0) (v := .bool true) HK0.out HWS.out.t
                have hlt2 := HLT.out
                have hb8 := below_set (j := 0) (v := .bool true) HWS.out.below (Nat.le_succ w.heap.size)
                have ht8 := Boxed.set (.bool true) HWS.out.t
                refine ⟨by simp, .inl ⟨_, _, rfl, run_takeDeferred hk1, ?_⟩⟩
                have hk0' := (World.putObj_heap_other (o := .deferred none) (show Bi0 + 1 ≠ Bi1 + 1 by omega)).trans hk0
                refine ⟨by simp, .inl ⟨_, _, rfl, run_takeDeferred hk0', ?_⟩⟩
                have hz := HZW.out
                have hb9 := hb8.trans (belowK_b (w := w) (Nat.le_refl _) _ _ _ (.deferred none) (show w.heap.size ≤ Bi1 + 1 by omega) hk1 rfl rfl)
                have hb10 := hb9.trans (belowK_b (w := w) (Nat.le_refl _) _ _ _ (.deferred none) (show w.heap.size ≤ Bi0 + 1 by omega) hk0' rfl rfl)
                exact ⟨_, results_c rfl _ _ (w.heap.size + 1) (.bool true) rfl (Boxed.cell ((Boxed.kept (Boxed.kept ht8 (grownBy_putObj' _ _ _) (by simp; omega)) (grownBy_putObj' _ _ _) (by simp; omega)))) Try.underlying4, rfl, hb10⟩
theorem BatchWalks_upto (w : World) (A0 : Option Addr) (c0 : Nat) (l0 : List Int) (hc0 : l0.length ≤ c0) (hr0 : Kd.C (Kd.int .u8) w A0 l0.length l0) (hg0 : ∀ x ∈ l0, (Lit.int .u8 x).wf = true) (a1 : Int) (hg1 : (Lit.int .i64 a1).wf = true) (hbulk : sumBulk (fun _ : Int => 1) l0 + 1 + 1 ≤ 1048576) :
    Calls Try.prog 8 #[.slice A0 l0.length c0, .int .i64 a1] w fun e w' => e = .returned (.bool true) ∧ Below w.heap.size w w' := by
  have hb := bytes_of_wf hg0
  have hlb := sumBulk_len (fun _ : Int => 1) (fun _ => Nat.le_refl _) l0
  have hw := refwalked_eq l0 (12 + l0.length) hb (by omega) (Nat.le_refl _)
  have h8 := seg8_small l0 hb
  by_cases h12 : l0.length < 12
  · rw [if_pos h12] at hw
    have hg : goneL l0 = [] := by unfold goneL; rw [if_pos h12]
    exact BatchWalks_calls A0 c0 l0 w hr0 hc0 hb (by omega) 0 _ _ (by omega) (by omega) (by rw [hg]; rfl) hw (by rw [hg]; intro j g h; simp at h) a1
  · rw [if_neg h12] at hw
    refine BatchWalks_calls A0 c0 l0 w hr0 hc0 hb (by omega) _ _ _ h8.1 h8.2 rfl hw ?_ a1
    intro j g h
    have := goneL_num l0 j g h
    rw [if_neg h12] at this
    exact this

end Go.Proofs.Ythkooncibfkepaa.G
