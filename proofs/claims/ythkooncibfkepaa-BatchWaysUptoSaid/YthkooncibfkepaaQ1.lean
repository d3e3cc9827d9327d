/- Contracts of functions and plain laws, several texts of the session put together by its program. -/
import Derived.Test.YthkooncibfkepaaQ0
import Derived.Test.YthkooncibfkepaaProg
import Derived.Below
import Derived.Deep.Draws
import Derived.Deep.AppendLies
import Derived.Maps.AppendAt
import Derived.OwnWalk
import Derived.Laws.BytesArg
import Derived.Laws.MakeOwn
import Derived.Laws.OwnMore
import Derived.Deep.OwnRows
import Derived.Tactics
import Derived.Lib.ConvBytes
import Derived.Laws.Slices
import Derived.WalkKit
import Derived.KernelRfl
import Derived.RowKit3
import Derived.Deep.LoopGhost
import Derived.Deep.QuietTactic
import Derived.BigQuiet
import Derived.WideLaws
import Derived.Deep.DeepCutAuto
import Derived.Deep.CutBlock
import Derived.Deep.RegionHeld3
import Derived.Laws.Rows
import Derived.Lib.AppendStr
import Derived.ArgAppend
import Derived.Laws.IdiomCopy
import Derived.OrdersHeld
import Derived.Laws.BitsLemmas
import Derived.RowKit
import Derived.Test.YthkooncibfkepaaWWords
import Derived.Test.YthkooncibfkepaaWLast
import Derived.Test.YthkooncibfkepaaWTab
import Derived.Test.YthkooncibfkepaaWFour
import Derived.Test.YthkooncibfkepaaWQPut
import Derived.Test.YthkooncibfkepaaWApart
import Derived.Test.YthkooncibfkepaaWArr
import Derived.Test.YthkooncibfkepaaWZeros
import Derived.Test.YthkooncibfkepaaWFoot
import Derived.Test.YthkooncibfkepaaWKept
import Derived.Test.YthkooncibfkepaaWShare
import Derived.Test.YthkooncibfkepaaWN
import Derived.Test.YthkooncibfkepaaWFootNe
import Derived.Test.YthkooncibfkepaaWAt
import Derived.Test.YthkooncibfkepaaWEqStruct
import Derived.Test.YthkooncibfkepaaWRepsOne
import Derived.Test.YthkooncibfkepaaWInv
import Derived.Test.YthkooncibfkepaaWInvWords
import Derived.Test.YthkooncibfkepaaWGuard
import Derived.Test.YthkooncibfkepaaWNEv
import Derived.Test.YthkooncibfkepaaWMore
import Derived.Lib.Strings
import Derived.Deep.RegionWith
import Derived.RangeFuncNested
import Derived.RangeFuncBound
import Derived.RangeFuncCalls
import Derived.RangeFuncLeaves
import Derived.RangeFuncBox
import Derived.Shelf.Abstract
import Derived.OwnWalkIn
import Derived.TacticsInMore
import Derived.LoopNIn
import Derived.LoopIn

/- Printed by the session's program over the kit's print, out of the translation: functions as plain Lean functions, and the proofs that the calls come to them. -/
namespace Go.Proofs.Ythkooncibfkepaa.G
open Go.RowKit Go.Proofs.YthkooncibfkepaaW.PrintWords Go.Proofs.YthkooncibfkepaaW.PrintLast Go.Proofs.YthkooncibfkepaaW.PrintMore
attribute [local go_sem] max2_int min2_int max_two min_two max_three min_three max_four min_four   -- for this text's walks alone
set_option linter.unusedVariables false
set_option linter.unusedSimpArgs false

/-! ### moraineref04_Check: function 17 -/
def moraineref04_Check.l0 : Nat → List (S65) → Int → Option (Int × Int)
  | 0, _, _ => none
  | k + 1, x0, x4 => if x4 < (x0.length : Int) then (if 0 ≤ x4 then ((moraineref04_May.f k ((rd_T65 x0 x4).f0) ((rd_T65 x0 x4).f1) ((rd_T65 x0 x4).f2)).bind fun t115 => (if t115 = true then (moraineref04_Check.l0 k x0 (wrap64 (x4 + 1))) else (some (x4, 40)))) else (none)) else ((moraineref04_size.f k x0).bind fun t116 => (if t116 > 1048576 then (some (0, 3)) else (some (0, 0))))
def moraineref04_Check.f (k : Nat) (l0 : List (S65)) : Option (Int × Int) := if (l0.length : Int) > 4096 then (some (0, 3)) else (moraineref04_Check.l0 k l0 0)
theorem moraineref04_Check.mono_l : ∀ k, (∀ y0 y1, LeO (moraineref04_Check.l0 k y0 y1) (moraineref04_Check.l0 (k + 1) y0 y1))
  | 0 => fun _ _ r h => by simp [moraineref04_Check.l0] at h
  | k + 1 => by
    have ih0 := moraineref04_Check.mono_l k
    · intro y0 y1
      unfold moraineref04_Check.l0
      repeat' first
      | (with_reducible exact ih0 _ _)
      | (with_reducible exact moraineref04_May.mono _ _ _ _)
      | (with_reducible exact moraineref04_size.mono _ _)
      | (with_reducible exact LeO.refl _)
      | (with_reducible exact LeO.none _)
      | (with_reducible refine LeO.ite ?_ ?_)
      | (with_reducible refine LeO.bind ?_ (fun _ => ?_))
      | exact ih0 _ _
      | exact moraineref04_May.mono _ _ _ _
      | exact moraineref04_size.mono _ _
      | exact LeO.none _
      | refine LeO.ite ?_ ?_
      | refine LeO.bind ?_ (fun _ => ?_)
theorem moraineref04_Check.mono : ∀ a0 k, LeO (moraineref04_Check.f k a0) (moraineref04_Check.f (k + 1) a0) := by
  intro a0 k
  have ih0 := moraineref04_Check.mono_l k
  unfold moraineref04_Check.f
  repeat' first
      | (with_reducible exact ih0 _ _)
      | (with_reducible exact moraineref04_May.mono _ _ _ _)
      | (with_reducible exact moraineref04_size.mono _ _)
      | (with_reducible exact LeO.refl _)
      | (with_reducible exact LeO.none _)
      | (with_reducible refine LeO.ite ?_ ?_)
      | (with_reducible refine LeO.bind ?_ (fun _ => ?_))
      | exact ih0 _ _
      | exact moraineref04_May.mono _ _ _ _
      | exact moraineref04_size.mono _ _
      | exact LeO.none _
      | refine LeO.ite ?_ ?_
      | refine LeO.bind ?_ (fun _ => ?_)
set_option maxHeartbeats 8000000 in
set_option maxRecDepth 100000 in
theorem moraineref04_Check.calls (k : Nat) (A0 : Option Addr) (c0 : Nat) (l0 : List (S65)) (r1 : Int) (r2 : Int) (w : World) (hr0 : Kd.C k65 w A0 l0.length l0) (hc0 : l0.length ≤ c0) (h : moraineref04_Check.f k l0 = some (r1, r2)) :
    Calls Try.prog 17 #[.slice A0 l0.length c0] w fun e w' => e = .returned (.tuple #[.int .i64 r1, .int .i64 r2]) ∧ Below w.heap.size w w' := by
  have hu65 := Try.underlying65
  have HR0 := Aside0.mk hr0
  have HC0 := Aside0.mk hc0
  clear hr0 hc0
  have HB := Aside0.mk (Below.refl w.heap.size w)
  have H : (if (l0.length : Int) > 4096 then (some (0, 3)) else (moraineref04_Check.l0 k l0 0)) = some (r1, r2) := h
  clear h
  by_cases c2 : (l0.length : Int) > 4096
  · rw [if_pos c2] at H
    have c2b0 : decide (4096 < (l0.length : Int)) = true := decide_eq_true c2
    have c2b1 : decide (4096 < l0.length) = true := decide_eq_true (by omega)
    clear c2
    simp only [Option.some.injEq, Prod.mk.injEq] at H
    obtain ⟨rfl, rfl⟩ := H
    go_enter Try.func17, Try.ntmps17
    go_wp2
    go_ret2
    exact ⟨by first | rfl | (simp [errW_none, errW_some] <;> rfl) | (simp [*, errW_none, errW_some] <;> rfl), by repeat (first | (with_reducible first | exact HB.out | apply below_alloc | apply pw_below_drewN | apply below_drew1) | exact HB.out)⟩
  · rw [if_neg c2] at H
    have c2b0 : decide (4096 < (l0.length : Int)) = false := decide_eq_false c2
    have c2b1 : decide (4096 < l0.length) = false := decide_eq_false (by omega)
    clear c2
    have H' := Aside0.mk H
    clear H
    go_enter Try.func17, Try.ntmps17
    go_wp2
    go_loopg [4] k (fun kq v4 w' => ∃ (x4_1 : Int), v4 = .int .i64 x4_1 ∧ Aside0 (moraineref04_Check.l0 kq l0 x4_1 = some (r1, r2)) ∧ Aside0 (kq ≤ k) ∧ Aside0 (Below w.heap.size w w'))
    case atStart => exact ⟨(0), (by first | rfl | (simp; done) | (simp [*]; done)), H', ⟨Nat.le_refl _⟩, ⟨by repeat (first | (with_reducible first | exact HB.out | apply below_alloc | apply pw_below_drewN | apply below_drew1) | exact HB.out)⟩⟩
    case round =>
      clear H'
      try clear c1
      try clear c2
      try clear c2b0
      try clear c2b1
      try clear p2
      obtain ⟨x4_1, rfl, HA, HK1, HB⟩ := hrel
      cases gk with
      | zero => exact absurd HA.out (by simp [moraineref04_Check.l0])
      | succ k1 =>
        have H := HA.out
        clear HA
        simp only [moraineref04_Check.l0] at H
        by_cases c3 : x4_1 < (l0.length : Int)
        · rw [if_pos c3] at H
          have c3b0 : decide (x4_1 < (l0.length : Int)) = true := decide_eq_true c3
          clear c3
          by_cases c4 : 0 ≤ x4_1
          · rw [if_pos c4] at H
            have c4b0 : decide (0 ≤ x4_1) = true := decide_eq_true c4
            clear c4
            replace H := Option.bind_eq_some_iff.mp H
            obtain ⟨t115, A50, H⟩ := H
            replace H : (if t115 = true then (moraineref04_Check.l0 k1 l0 (wrap64 (x4_1 + 1))) else (some (x4_1, 40))) = some (r1, r2) := H
            have A5 := Aside0.mk A50
            clear A50
            by_cases c6 : t115 = true
            · subst c6
              have H1 : (moraineref04_Check.l0 k1 l0 (wrap64 (x4_1 + 1))) = some (r1, r2) := by rw [if_pos rfl] at H; exact H
              clear H
              have H := H1
              clear H1
              have H' := Aside0.mk H
              clear H
              have p114 : 0 ≤ (x4_1 : Int) := of_decide_eq_true (by first | (with_reducible assumption) | assumption)
              have q114 : x4_1 < (l0.length : Int) := of_decide_eq_true (by first | (with_reducible assumption) | assumption)
              obtain ⟨ad114, e114, hx114_0, hx114_1, hx114_2⟩ := at_T65 HR0.out x4_1 p114 q114
              cases e114
              replace hx114_0 := (HB.out.cell (World.block_lt_of_cell? w _ hx114_0)).trans hx114_0
              replace hx114_1 := (HB.out.cell (World.block_lt_of_cell? w _ hx114_1)).trans hx114_1
              replace hx114_2 := (HB.out.cell (World.block_lt_of_cell? w _ hx114_2)).trans hx114_2
              replace p114 := eq_true p114
              replace q114 := eq_true q114
              go_wp2_with (first | ((with_reducible refine gate_callee (f := 51) rfl ?_); refine goesL_ (some 18) rfl rfl Try.func51 (by kernel_rfl) rfl #[.agg #[.int .i64 ((rd_T65 l0 x4_1).f0), .string ((rd_T65 l0 x4_1).f1), .string ((rd_T65 l0 x4_1).f2)]] rfl (by (try simp only [List.map_toArray, List.map_cons, List.map_nil]); first | done | rfl | (simp only [List.length_drop, List.length_take]; rfl)) ?_; (with_reducible refine (moraineref04_May.calls k1 ((rd_T65 l0 x4_1).f0) ((rd_T65 l0 x4_1).f1) ((rd_T65 l0 x4_1).f2) true _ A5.out).mono ?_); rintro e w7 ⟨rfl, hb⟩; refine ⟨_, rfl, ?_⟩; have n0_ := Aside0.mk (below_step (by repeat (first | (with_reducible first | exact HB.out | apply below_alloc | apply pw_below_drewN | apply below_drew1) | exact HB.out)) hb); clear HB; have HB := n0_; clear n0_; (try clear hb); (try clear hb2); (try clear hk); (try clear hi)))
              go_roundg k1
              case measure => have := HK1.out; omega
              case rel => exact ⟨(wrap64 (x4_1 + 1)), (by first | rfl | (simp; done) | (simp [*]; done)), H', ⟨by have := HK1.out; omega⟩, ⟨by repeat (first | (with_reducible first | exact HB.out | apply below_alloc | apply pw_below_drewN | apply below_drew1) | exact HB.out)⟩⟩
            · replace c6 := Bool.eq_false_iff.mpr c6
              subst c6
              have H1 : (some (x4_1, 40)) = some (r1, r2) := by rw [if_neg (show ¬ (false = true) by decide)] at H; exact H
              clear H
              have H := H1
              clear H1
              simp only [Option.some.injEq, Prod.mk.injEq] at H
              obtain ⟨rfl, rfl⟩ := H
              have p114 : 0 ≤ (x4_1 : Int) := of_decide_eq_true (by first | (with_reducible assumption) | assumption)
              have q114 : x4_1 < (l0.length : Int) := of_decide_eq_true (by first | (with_reducible assumption) | assumption)
              obtain ⟨ad114, e114, hx114_0, hx114_1, hx114_2⟩ := at_T65 HR0.out x4_1 p114 q114
              cases e114
              replace hx114_0 := (HB.out.cell (World.block_lt_of_cell? w _ hx114_0)).trans hx114_0
              replace hx114_1 := (HB.out.cell (World.block_lt_of_cell? w _ hx114_1)).trans hx114_1
              replace hx114_2 := (HB.out.cell (World.block_lt_of_cell? w _ hx114_2)).trans hx114_2
              replace p114 := eq_true p114
              replace q114 := eq_true q114
              go_wp2_with (first | ((with_reducible refine gate_callee (f := 51) rfl ?_); refine goesL_ (some 18) rfl rfl Try.func51 (by kernel_rfl) rfl #[.agg #[.int .i64 ((rd_T65 l0 x4_1).f0), .string ((rd_T65 l0 x4_1).f1), .string ((rd_T65 l0 x4_1).f2)]] rfl (by (try simp only [List.map_toArray, List.map_cons, List.map_nil]); first | done | rfl | (simp only [List.length_drop, List.length_take]; rfl)) ?_; (with_reducible refine (moraineref04_May.calls k1 ((rd_T65 l0 x4_1).f0) ((rd_T65 l0 x4_1).f1) ((rd_T65 l0 x4_1).f2) false _ A5.out).mono ?_); rintro e w8 ⟨rfl, hb⟩; refine ⟨_, rfl, ?_⟩; have n0_ := Aside0.mk (below_step (by repeat (first | (with_reducible first | exact HB.out | apply below_alloc | apply pw_below_drewN | apply below_drew1) | exact HB.out)) hb); clear HB; have HB := n0_; clear n0_; (try clear hb); (try clear hb2); (try clear hk); (try clear hi)))
              go_ret2
              exact ⟨by first | rfl | (simp [errW_none, errW_some] <;> rfl) | (simp [*, errW_none, errW_some] <;> rfl), by repeat (first | (with_reducible first | exact HB.out | apply below_alloc | apply pw_below_drewN | apply below_drew1) | exact HB.out)⟩
          · rw [if_neg c4] at H
            exact absurd H (by simp)
        · rw [if_neg c3] at H
          have c3b0 : decide (x4_1 < (l0.length : Int)) = false := decide_eq_false c3
          clear c3
          replace H := Option.bind_eq_some_iff.mp H
          obtain ⟨t116, A90, H⟩ := H
          replace H : (if t116 > 1048576 then (some (0, 3)) else (some (0, 0))) = some (r1, r2) := H
          have A9 := Aside0.mk A90
          clear A90
          by_cases c10 : t116 > 1048576
          · rw [if_pos c10] at H
            have c10b0 : decide (1048576 < t116) = true := decide_eq_true c10
            clear c10
            simp only [Option.some.injEq, Prod.mk.injEq] at H
            obtain ⟨rfl, rfl⟩ := H
            go_wp2_with (first | ((with_reducible refine gate_callee (f := 52) rfl ?_); refine goesL_ (some 22) rfl rfl Try.func52 (by kernel_rfl) rfl #[.slice A0 l0.length c0] rfl (by (try simp only [List.map_toArray, List.map_cons, List.map_nil]); first | done | rfl | (simp only [List.length_drop, List.length_take]; rfl)) ?_; (with_reducible refine (moraineref04_size.calls k1 _ _ l0 t116 _ ?side1 ?side2 A9.out).mono ?_); (case side1 => repeat (first | exact (Kd.C_below HR0.out HB.out) | (with_reducible refine Kd.C_alloc ?_ _) | (with_reducible refine Kd.C_drewN ?_ _) | (with_reducible refine Kd.C_drew ?_))); (case side2 => exact HC0.out); rintro e w11 ⟨rfl, hb⟩; refine ⟨_, rfl, ?_⟩; have n0_ := Aside0.mk (below_step (by repeat (first | (with_reducible first | exact HB.out | apply below_alloc | apply pw_below_drewN | apply below_drew1) | exact HB.out)) hb); clear HB; have HB := n0_; clear n0_; (try clear hb); (try clear hb2); (try clear hk); (try clear hi)))
            go_ret2
            exact ⟨by first | rfl | (simp [errW_none, errW_some] <;> rfl) | (simp [*, errW_none, errW_some] <;> rfl), by repeat (first | (with_reducible first | exact HB.out | apply below_alloc | apply pw_below_drewN | apply below_drew1) | exact HB.out)⟩
          · rw [if_neg c10] at H
            have c10b0 : decide (1048576 < t116) = false := decide_eq_false c10
            clear c10
            simp only [Option.some.injEq, Prod.mk.injEq] at H
            obtain ⟨rfl, rfl⟩ := H
            go_wp2_with (first | ((with_reducible refine gate_callee (f := 52) rfl ?_); refine goesL_ (some 22) rfl rfl Try.func52 (by kernel_rfl) rfl #[.slice A0 l0.length c0] rfl (by (try simp only [List.map_toArray, List.map_cons, List.map_nil]); first | done | rfl | (simp only [List.length_drop, List.length_take]; rfl)) ?_; (with_reducible refine (moraineref04_size.calls k1 _ _ l0 t116 _ ?side1 ?side2 A9.out).mono ?_); (case side1 => repeat (first | exact (Kd.C_below HR0.out HB.out) | (with_reducible refine Kd.C_alloc ?_ _) | (with_reducible refine Kd.C_drewN ?_ _) | (with_reducible refine Kd.C_drew ?_))); (case side2 => exact HC0.out); rintro e w12 ⟨rfl, hb⟩; refine ⟨_, rfl, ?_⟩; have n0_ := Aside0.mk (below_step (by repeat (first | (with_reducible first | exact HB.out | apply below_alloc | apply pw_below_drewN | apply below_drew1) | exact HB.out)) hb); clear HB; have HB := n0_; clear n0_; (try clear hb); (try clear hb2); (try clear hk); (try clear hi)))
            go_ret2
            exact ⟨by first | rfl | (simp [errW_none, errW_some] <;> rfl) | (simp [*, errW_none, errW_some] <;> rfl), by repeat (first | (with_reducible first | exact HB.out | apply below_alloc | apply pw_below_drewN | apply below_drew1) | exact HB.out)⟩

end Go.Proofs.Ythkooncibfkepaa.G

/- Printed by the session's program over the kit's print, out of the translation: functions as plain Lean functions, and the proofs that the calls come to them. -/
namespace Go.Proofs.Ythkooncibfkepaa.G
open Go.RowKit Go.Proofs.YthkooncibfkepaaW.PrintWords Go.Proofs.YthkooncibfkepaaW.PrintLast Go.Proofs.YthkooncibfkepaaW.PrintMore
attribute [local go_sem] max2_int min2_int max_two min_two max_three min_three max_four min_four   -- for this text's walks alone
set_option linter.unusedVariables false
set_option linter.unusedSimpArgs false

/-! ### moraineref04_Size: function 19 -/
def moraineref04_Size.f (k : Nat) (l0 : List (S65)) : Option (Int × Int) := (moraineref04_Check.f k l0).bind fun bt120 => (if bt120.2 = 0 then ((moraineref04_size.f k l0).bind fun t122 => (some (t122, 0))) else (some (0, bt120.2)))
theorem moraineref04_Size.mono : ∀ a0 k, LeO (moraineref04_Size.f k a0) (moraineref04_Size.f (k + 1) a0) := by
  intro a0 k
  unfold moraineref04_Size.f
  repeat' first
      | (with_reducible exact moraineref04_Check.mono _ _)
      | (with_reducible exact moraineref04_size.mono _ _)
      | (with_reducible exact LeO.refl _)
      | (with_reducible exact LeO.none _)
      | (with_reducible refine LeO.ite ?_ ?_)
      | (with_reducible refine LeO.bind ?_ (fun _ => ?_))
      | exact moraineref04_Check.mono _ _
      | exact moraineref04_size.mono _ _
      | exact LeO.none _
      | refine LeO.ite ?_ ?_
      | refine LeO.bind ?_ (fun _ => ?_)
set_option maxHeartbeats 8000000 in
set_option maxRecDepth 100000 in
theorem moraineref04_Size.calls (k : Nat) (A0 : Option Addr) (c0 : Nat) (l0 : List (S65)) (r1 : Int) (r2 : Int) (w : World) (hr0 : Kd.C k65 w A0 l0.length l0) (hc0 : l0.length ≤ c0) (h : moraineref04_Size.f k l0 = some (r1, r2)) :
    Calls Try.prog 19 #[.slice A0 l0.length c0] w fun e w' => e = .returned (.tuple #[.int .i64 r1, .int .i64 r2]) ∧ Below w.heap.size w w' := by
  have HR0 := Aside0.mk hr0
  have HC0 := Aside0.mk hc0
  clear hr0 hc0
  have HB := Aside0.mk (Below.refl w.heap.size w)
  have H : ((moraineref04_Check.f k l0).bind fun bt120 => (if bt120.2 = 0 then ((moraineref04_size.f k l0).bind fun t122 => (some (t122, 0))) else (some (0, bt120.2)))) = some (r1, r2) := h
  clear h
  replace H := Option.bind_eq_some_iff.mp H
  obtain ⟨⟨t120, t121⟩, A20, H⟩ := H
  replace H : (if t121 = 0 then ((moraineref04_size.f k l0).bind fun t122 => (some (t122, 0))) else (some (0, t121))) = some (r1, r2) := H
  have A2 := Aside0.mk A20
  clear A20
  by_cases c3 : t121 = 0
  · rw [if_pos c3] at H
    have c3b0 : (t121 == 0) = true := beq_iff_eq.mpr c3
    have c3b1 : (t121 != 0) = false := bne_eq_false_iff_eq.mpr c3
    clear c3
    replace H := Option.bind_eq_some_iff.mp H
    obtain ⟨t122, A40, H⟩ := H
    replace H : (some (t122, 0)) = some (r1, r2) := H
    have A4 := Aside0.mk A40
    clear A40
    simp only [Option.some.injEq, Prod.mk.injEq] at H
    obtain ⟨rfl, rfl⟩ := H
    go_enter Try.func19, Try.ntmps19
    go_wp2_with (first | ((with_reducible refine gate_callee (f := 17) rfl ?_); refine goesL_ (some 8) rfl rfl Try.func17 (by kernel_rfl) rfl #[.slice A0 l0.length c0] rfl (by (try simp only [List.map_toArray, List.map_cons, List.map_nil]); first | done | rfl | (simp only [List.length_drop, List.length_take]; rfl)) ?_; (with_reducible refine (moraineref04_Check.calls k _ _ l0 t120 t121 _ ?side1 ?side2 A2.out).mono ?_); (case side1 => repeat (first | exact HR0.out | (with_reducible refine Kd.C_alloc ?_ _) | (with_reducible refine Kd.C_drewN ?_ _) | (with_reducible refine Kd.C_drew ?_))); (case side2 => exact HC0.out); rintro e w5 ⟨rfl, hb⟩; refine ⟨_, rfl, ?_⟩; have n0_ := Aside0.mk (below_step (by repeat (first | (with_reducible first | exact HB.out | apply below_alloc | apply pw_below_drewN | apply below_drew1) | exact HB.out)) hb); clear HB; have HB := n0_; clear n0_; (try clear hb); (try clear hb2); (try clear hk); (try clear hi)) | ((with_reducible refine gate_callee (f := 52) rfl ?_); refine goesL_ (some 15) rfl rfl Try.func52 (by kernel_rfl) rfl #[.slice A0 l0.length c0] rfl (by (try simp only [List.map_toArray, List.map_cons, List.map_nil]); first | done | rfl | (simp only [List.length_drop, List.length_take]; rfl)) ?_; (with_reducible refine (moraineref04_size.calls k _ _ l0 t122 _ ?side1 ?side2 A4.out).mono ?_); (case side1 => repeat (first | exact (Kd.C_below HR0.out HB.out) | (with_reducible refine Kd.C_alloc ?_ _) | (with_reducible refine Kd.C_drewN ?_ _) | (with_reducible refine Kd.C_drew ?_))); (case side2 => exact HC0.out); rintro e w6 ⟨rfl, hb⟩; refine ⟨_, rfl, ?_⟩; have n0_ := Aside0.mk (below_step (by repeat (first | (with_reducible first | exact HB.out | apply below_alloc | apply pw_below_drewN | apply below_drew1) | exact HB.out)) hb); clear HB; have HB := n0_; clear n0_; (try clear hb); (try clear hb2); (try clear hk); (try clear hi)))
    go_ret2
    exact ⟨by first | rfl | (simp [errW_none, errW_some] <;> rfl) | (simp [*, errW_none, errW_some] <;> rfl), by repeat (first | (with_reducible first | exact HB.out | apply below_alloc | apply pw_below_drewN | apply below_drew1) | exact HB.out)⟩
  · rw [if_neg c3] at H
    have c3b0 : (t121 == 0) = false := beq_eq_false_iff_ne.mpr c3
    have c3b1 : (t121 != 0) = true := bne_iff_ne.mpr c3
    simp only [Option.some.injEq, Prod.mk.injEq] at H
    obtain ⟨rfl, rfl⟩ := H
    go_enter Try.func19, Try.ntmps19
    go_wp2_with (first | ((with_reducible refine gate_callee (f := 17) rfl ?_); refine goesL_ (some 8) rfl rfl Try.func17 (by kernel_rfl) rfl #[.slice A0 l0.length c0] rfl (by (try simp only [List.map_toArray, List.map_cons, List.map_nil]); first | done | rfl | (simp only [List.length_drop, List.length_take]; rfl)) ?_; (with_reducible refine (moraineref04_Check.calls k _ _ l0 t120 t121 _ ?side1 ?side2 A2.out).mono ?_); (case side1 => repeat (first | exact HR0.out | (with_reducible refine Kd.C_alloc ?_ _) | (with_reducible refine Kd.C_drewN ?_ _) | (with_reducible refine Kd.C_drew ?_))); (case side2 => exact HC0.out); rintro e w7 ⟨rfl, hb⟩; refine ⟨_, rfl, ?_⟩; have n0_ := Aside0.mk (below_step (by repeat (first | (with_reducible first | exact HB.out | apply below_alloc | apply pw_below_drewN | apply below_drew1) | exact HB.out)) hb); clear HB; have HB := n0_; clear n0_; (try clear hb); (try clear hb2); (try clear hk); (try clear hi)))
    go_ret2
    exact ⟨by first | rfl | (simp [errW_none, errW_some] <;> rfl) | (simp [*, errW_none, errW_some] <;> rfl), by repeat (first | (with_reducible first | exact HB.out | apply below_alloc | apply pw_below_drewN | apply below_drew1) | exact HB.out)⟩

end Go.Proofs.Ythkooncibfkepaa.G

/- Contracts typed by hand: plain laws of operations: which may be, how many bytes they have; what Check and Size answer -/
namespace Go.Proofs.Ythkooncibfkepaa.G
open Go.RowKit Go.Proofs.YthkooncibfkepaaW.PrintWords Go.Proofs.YthkooncibfkepaaW.PrintLast Go.Proofs.YthkooncibfkepaaW.PrintMore
attribute [local go_sem] max2_int min2_int max_two min_two max_three min_three max_four min_four
set_option linter.unusedVariables false
set_option linter.unusedSimpArgs false

/-! plain laws of operations: which may be, how many bytes they have; what Check and Size answer -/
abbrev Op04 := S65
def mayB (x : Op04) : Bool :=
  if (x.f1.size : Int) < 1 then false else if (x.f1.size : Int) > 1024 then false else if x.f0 = 0 then x.f2.toList == ([] : List UInt8) else if x.f0 = 1 then decide ((x.f2.size : Int) ≤ 65536)
  else if x.f0 = 2 then (if (x.f2.size : Int) ≤ 1024 then Op.bytesLess x.f1.toList x.f2.toList else false) else false
theorem may_eq (k : Nat) (x : Op04) : batch_may.f (k + 1) x.f0 x.f1 x.f2 = some (mayB x) := by
  unfold batch_may.f mayB
  by_cases h1 : (x.f1.size : Int) < 1
  · rw [if_pos h1, if_pos h1, batch_may.j0, if_pos rfl]
  · rw [if_neg h1, if_neg h1]
    by_cases h2 : (x.f1.size : Int) > 1024
    · rw [decide_eq_true h2, if_pos h2, batch_may.j0, if_pos rfl]
    · rw [decide_eq_false h2, if_neg h2, batch_may.j0, if_neg Bool.false_ne_true]
      by_cases h3 : x.f0 = 0
      · rw [if_pos h3, if_pos h3]
      · rw [if_neg h3, if_neg h3]
        by_cases h4 : x.f0 = 1
        · rw [if_pos h4, if_pos h4]
        · rw [if_neg h4, if_neg h4]
          by_cases h5 : x.f0 = 2
          · rw [if_pos h5, if_pos h5]
            by_cases h6 : (x.f2.size : Int) ≤ 1024
            · rw [if_pos h6, if_pos h6]
            · rw [if_neg h6, if_neg h6]
          · rw [if_neg h5, if_neg h5]
theorem less_nil (a : List UInt8) : Op.bytesLess a [] = false := by cases a <;> simp [Op.bytesLess]
theorem ba_empty {s : ByteArray} (h : ¬ (s.size : Int) ≥ 1) : s.toList = [] := by
  have : s.data.toList.length = s.size := by rw [Array.length_toList]; rfl
  rw [Lib.toList_data]
  exact List.eq_nil_of_length_eq_zero (by omega)
theorem May_eq (k : Nat) (x : Op04) : moraineref04_May.f (k + 1) x.f0 x.f1 x.f2 = some (mayB x) := by
  unfold moraineref04_May.f mayB
  by_cases h1 : (x.f1.size : Int) < 1
  · rw [if_pos h1, if_pos h1, moraineref04_May.j0, if_pos rfl]
  · rw [if_neg h1, if_neg h1]
    by_cases h2 : (x.f1.size : Int) > 1024
    · rw [decide_eq_true h2, if_pos h2, moraineref04_May.j0, if_pos rfl]
    · rw [decide_eq_false h2, if_neg h2, moraineref04_May.j0, if_neg Bool.false_ne_true]
      by_cases h3 : x.f0 = 0
      · rw [if_pos h3, if_pos h3]
      · rw [if_neg h3, if_neg h3]
        by_cases h4 : x.f0 = 1
        · rw [if_pos h4, if_pos h4]
        · rw [if_neg h4, if_neg h4]
          by_cases h5 : x.f0 = 2
          · rw [if_pos h5, if_pos h5]
            by_cases h7 : (x.f2.size : Int) ≥ 1
            · rw [if_pos h7]
              by_cases h6 : (x.f2.size : Int) ≤ 1024
              · rw [if_pos h6, if_pos h6]
              · rw [if_neg h6, if_neg h6]
            · rw [if_neg h7, if_pos (by omega), ba_empty h7, less_nil]
          · rw [if_neg h5, if_neg h5]
/-- how many bytes a text with its length has -/
def tlen (s : ByteArray) : Nat := (enc (s.size : Int)).length + s.size
def szN (x : Op04) : Nat := if x.f0 = 0 then 1 + tlen x.f1 else 1 + tlen x.f1 + tlen x.f2
def totN : List Op04 → Nat
  | [] => 0
  | x :: r => szN x + totN r
def Sane (l : List Op04) : Prop := l.length ≤ 1048576 ∧ ∀ x ∈ l, x.f1.size ≤ 1048576 ∧ x.f2.size ≤ 1048576
theorem tlen_le {s : ByteArray} (h : s.size ≤ 1048576) : 1 ≤ tlen s ∧ tlen s ≤ 1048586 := by
  have := enc_len (s.size : Int)
  unfold tlen
  omega
theorem szN_le {x : Op04} (h : x.f1.size ≤ 1048576 ∧ x.f2.size ≤ 1048576) : 1 ≤ szN x ∧ szN x ≤ 2097173 := by
  have h1 := tlen_le h.1
  have h2 := tlen_le h.2
  unfold szN
  split <;> omega
theorem totN_le : ∀ (l : List Op04), (∀ x ∈ l, x.f1.size ≤ 1048576 ∧ x.f2.size ≤ 1048576) → totN l ≤ l.length * 2097173
  | [], _ => by simp [totN]
  | x :: r, h => by
    have h1 := szN_le (h x List.mem_cons_self)
    have ih := totN_le r (fun y hy => h y (List.mem_cons_of_mem _ hy))
    simp only [totN, List.length_cons]
    omega
theorem totN_append : ∀ (a b : List Op04), totN (a ++ b) = totN a + totN b
  | [], b => by simp [totN]
  | x :: r, b => by
    have := totN_append r b
    simp only [List.cons_append, totN]
    omega
theorem textsize_eq (k : Nat) (s : ByteArray) (h : s.size ≤ 1048576) (hk : 10 ≤ k) : batch_textSize.f k s = some ((tlen s : Nat) : Int) := by
  have w : IntKind.u64.wrap (s.size : Int) = (s.size : Int) := by rw [Go.IntKind.wrap_u64]; omega
  have hl := enc_len (s.size : Int)
  unfold batch_textSize.f
  rw [w, Size_eq k _ (by omega) (by omega) hk, Option.bind_some]
  unfold tlen
  have w2 : wrap64 (((enc (s.size : Int)).length : Int) + (s.size : Int)) = (((enc (s.size : Int)).length + s.size : Nat) : Int) := by unfold wrap64; omega
  rw [w2]
theorem opsize_eq (k : Nat) (x : Op04) (h : x.f1.size ≤ 1048576 ∧ x.f2.size ≤ 1048576) (hk : 10 ≤ k) : batch_size.f k x.f0 x.f1 x.f2 = some ((szN x : Nat) : Int) := by
  have h1 := tlen_le h.1
  have h2 := tlen_le h.2
  unfold batch_size.f
  rw [textsize_eq k _ h.1 hk, Option.bind_some, textsize_eq k _ h.2 hk]
  unfold szN
  have w1 : wrap64 (1 + (tlen x.f1 : Int)) = ((1 + tlen x.f1 : Nat) : Int) := by unfold wrap64; omega
  have w2 : wrap64 (((1 + tlen x.f1 : Nat) : Int) + (tlen x.f2 : Int)) = ((1 + tlen x.f1 + tlen x.f2 : Nat) : Int) := by unfold wrap64; omega
  by_cases h0 : x.f0 = 0
  · rw [if_pos h0, if_pos h0, w1]
  · rw [if_neg h0, if_neg h0, Option.bind_some, w1, w2]
theorem total_loop (l : List Op04) (hs : Sane l) (k0 : Nat) (hk0 : 10 ≤ k0) : ∀ (d i acc k : Nat), i + d = l.length → acc ≤ 12 + i * 2097173 → k = k0 + d + 1 → batch_total.l0 k (acc : Int) l (l.length : Int) (i : Int) = some ((acc + totN (l.drop i) : Nat) : Int)
  | 0, i, acc, k, hi, _, hk => by
    subst hk
    rw [batch_total.l0, if_neg (by omega), List.drop_eq_nil_of_le (by omega)]
    simp [totN]
  | d + 1, i, acc, k, hi, ha, hk => by
    subst hk
    have hlt : i < l.length := by omega
    have hd := drop_rdT l i hlt
    have hm : rd_T65 l (i : Int) ∈ l := by
      have : rd_T65 l (i : Int) ∈ l.drop i := by rw [hd]; exact List.mem_cons_self
      exact List.mem_of_mem_drop this
    have hx := hs.2 _ hm
    have h1 := szN_le hx
    have h2 := hs.1
    have w : wrap64 ((i : Int) + 1) = ((i + 1 : Nat) : Int) := by unfold wrap64; omega
    have w2 : wrap64 ((acc : Int) + ((szN (rd_T65 l (i : Int)) : Nat) : Int)) = ((acc + szN (rd_T65 l (i : Int)) : Nat) : Int) := by unfold wrap64; omega
    rw [show k0 + (d + 1) + 1 = (k0 + d + 1) + 1 by omega, batch_total.l0, if_pos (by omega), if_pos (by omega), if_pos (by omega), opsize_eq _ _ hx (by omega), Option.bind_some, w, w2, total_loop l hs k0 hk0 d (i + 1) _ _ (by omega) (by omega) rfl, hd]
    simp only [totN]
    rw [Nat.add_assoc]
theorem total_eq (k : Nat) (l : List Op04) (hs : Sane l) (hk : k = 11 + l.length) : batch_total.f k l = some ((12 + totN l : Nat) : Int) := by
  unfold batch_total.f
  have := total_loop l hs 10 (by omega) l.length 0 12 k (by omega) (by omega) (by omega)
  rw [List.drop_zero] at this
  exact this
theorem length_loop : ∀ (f k : Nat) (v : Int) (n : Nat), Small f v → v ≤ 9223372036854775807 → f + 1 ≤ k → n + f ≤ 100 → moraineref04_length.l0 k v n = some (((n + (encF f v).length - 1 : Nat) : Int)) := by
  intro f
  induction f with
  | zero =>
    intro k v n h hv9 hk hn
    obtain ⟨k, rfl⟩ : ∃ m, k = m + 1 := ⟨k - 1, by omega⟩
    have hs := small_zero h
    simp only [moraineref04_length.l0]
    rw [if_neg (show ¬ v ≥ 128 by omega)]
    simp [encF]
  | succ f ih =>
    intro k v n h hv9 hk hn
    obtain ⟨k, rfl⟩ : ∃ m, k = m + 1 := ⟨k - 1, by omega⟩
    have hl := encF_len f (v / 128)
    have h0 := h.1
    have w : wrap64 ((n : Int) + 1) = ((n + 1 : Nat) : Int) := by unfold wrap64; omega
    have w2 : wrap64 (Int.tdiv v 128) = v / 128 := by rw [Int.tdiv_eq_ediv_of_nonneg h0]; unfold wrap64; omega
    simp only [moraineref04_length.l0, encF, w, w2]
    by_cases hv : v ≥ 128
    · rw [if_pos hv, if_pos (show 128 ≤ v from hv), ih k _ (n + 1) (small_div h) (by omega) (by omega) (by omega)]
      simp only [List.length_cons]
      congr 2; omega
    · rw [if_neg hv, if_neg (show ¬ 128 ≤ v from hv)]
      simp
theorem length_eq (k : Nat) (v : Int) (h0 : 0 ≤ v) (h1 : v ≤ 1048576) (hk : 10 ≤ k) : moraineref04_length.f k v = some ((enc v).length : Int) := by
  unfold moraineref04_length.f
  have := length_loop 9 k v 1 (small9 v h0 (by omega)) (by omega) (by omega) (by omega)
  have hl := enc_len v
  unfold enc at *
  rw [show ((1 : Nat) : Int) = 1 by omega] at this
  rw [this]
  congr 2; omega
theorem bytes_eq (k : Nat) (x : Op04) (h : x.f1.size ≤ 1048576 ∧ x.f2.size ≤ 1048576) (hk : 10 ≤ k) : moraineref04_bytes.f k x.f0 x.f1 x.f2 = some ((szN x : Nat) : Int) := by
  have h1 := tlen_le h.1
  have h2 := tlen_le h.2
  have e1 := enc_len (x.f1.size : Int)
  have e2 := enc_len (x.f2.size : Int)
  unfold moraineref04_bytes.f
  rw [length_eq k _ (by omega) (by omega) hk, Option.bind_some, length_eq k _ (by omega) (by omega) hk]
  unfold szN
  unfold tlen at *
  have w1 : wrap64 (wrap64 (1 + ((enc (x.f1.size : Int)).length : Int)) + (x.f1.size : Int)) = ((1 + ((enc (x.f1.size : Int)).length + x.f1.size) : Nat) : Int) := by unfold wrap64; omega
  have w2 : wrap64 (((1 + ((enc (x.f1.size : Int)).length + x.f1.size) : Nat) : Int) + wrap64 (((enc (x.f2.size : Int)).length : Int) + (x.f2.size : Int))) = ((1 + ((enc (x.f1.size : Int)).length + x.f1.size) + ((enc (x.f2.size : Int)).length + x.f2.size) : Nat) : Int) := by unfold wrap64; omega
  by_cases h0 : x.f0 = 0
  · rw [if_pos h0, if_pos h0, w1]
  · rw [if_neg h0, if_neg h0, Option.bind_some, w1, w2]
theorem size_loop (l : List Op04) (hs : Sane l) (k0 : Nat) (hk0 : 10 ≤ k0) : ∀ (d i acc k : Nat), i + d = l.length → acc ≤ 12 + i * 2097173 → k = k0 + d + 1 → moraineref04_size.l0 k l (acc : Int) (i : Int) = some ((acc + totN (l.drop i) : Nat) : Int)
  | 0, i, acc, k, hi, _, hk => by
    subst hk
    rw [moraineref04_size.l0, if_neg (by omega), List.drop_eq_nil_of_le (by omega)]
    simp [totN]
  | d + 1, i, acc, k, hi, ha, hk => by
    subst hk
    have hlt : i < l.length := by omega
    have hd := drop_rdT l i hlt
    have hm : rd_T65 l (i : Int) ∈ l := by
      have : rd_T65 l (i : Int) ∈ l.drop i := by rw [hd]; exact List.mem_cons_self
      exact List.mem_of_mem_drop this
    have hx := hs.2 _ hm
    have h1 := szN_le hx
    have h2 := hs.1
    have w : wrap64 ((i : Int) + 1) = ((i + 1 : Nat) : Int) := by unfold wrap64; omega
    have w2 : wrap64 ((acc : Int) + ((szN (rd_T65 l (i : Int)) : Nat) : Int)) = ((acc + szN (rd_T65 l (i : Int)) : Nat) : Int) := by unfold wrap64; omega
    rw [show k0 + (d + 1) + 1 = (k0 + d + 1) + 1 by omega, moraineref04_size.l0, if_pos (by omega), if_pos (by omega), bytes_eq _ _ hx (by omega), Option.bind_some, w, w2, size_loop l hs k0 hk0 d (i + 1) _ _ (by omega) (by omega) rfl, hd]
    simp only [totN]
    rw [Nat.add_assoc]
theorem refsize_eq (k : Nat) (l : List Op04) (hs : Sane l) (hk : k = 11 + l.length) : moraineref04_size.f k l = some ((12 + totN l : Nat) : Int) := by
  unfold moraineref04_size.f
  have := size_loop l hs 10 (by omega) l.length 0 12 k (by omega) (by omega) (by omega)
  rw [List.drop_zero] at this
  exact this
/-- the place of the first operation that may not be -/
def badN : List Op04 → Nat → Option Nat
  | [], _ => none
  | x :: r, i => if mayB x then badN r (i + 1) else some i
def chk (l : List Op04) : Int × Int := if (l.length : Int) > 4096 then (0, 3) else match badN l 0 with
  | some i => ((i : Int), 40)
  | none => if (12 + totN l : Nat) > 1048576 then (0, 3) else (0, 0)
theorem idx_eq (k : Nat) : ∀ (l : List Op04) (i : Nat), batch_Check.idx (k + 1) l i = some (match badN l i with | some j => (j : Int) | none => -1)
  | [], i => rfl
  | x :: r, i => by
    simp only [batch_Check.idx, badN]
    rw [may_eq, Option.bind_some, idx_eq k r (i + 1)]
    cases mayB x <;> rfl
theorem check_eq (k : Nat) (l : List Op04) (hs : Sane l) (hk : 11 + l.length ≤ k) : batch_Check.f k l = some (chk l) := by
  have ht := at_rounds (g := fun k => batch_total.f k l) (fun k => batch_total.mono _ _) hk (total_eq _ l hs rfl)
  have ht' : batch_total.f k l = some ((12 + totN l : Nat) : Int) := ht
  obtain ⟨k, rfl⟩ : ∃ m, k = m + 1 := ⟨k - 1, by omega⟩
  unfold batch_Check.f chk
  by_cases h : (l.length : Int) > 4096
  · rw [if_pos h, if_pos h]
  · rw [if_neg h, if_neg h, idx_eq, Option.bind_some, ht']
    cases hb : badN l 0 with
    | some j =>
      simp only []
      rw [if_pos (by omega)]
    | none =>
      simp only []
      rw [if_neg (by omega), Option.bind_some]
      by_cases h2 : (12 + totN l : Nat) > 1048576
      · rw [if_pos h2, if_pos (by omega)]
      · rw [if_neg h2, if_neg (by omega)]
theorem refcheck_loop (l : List Op04) (hs : Sane l) : ∀ (d i k : Nat), i + d = l.length → k = 12 + l.length + d + 1 → moraineref04_Check.l0 k l (i : Int) = some (match badN (l.drop i) i with | some j => ((j : Int), 40) | none => if (12 + totN l : Nat) > 1048576 then (0, 3) else (0, 0))
  | 0, i, k, hi, hk => by
    subst hk
    have ht' : moraineref04_size.f (12 + l.length) l = some ((12 + totN l : Nat) : Int) := at_rounds (g := fun k => moraineref04_size.f k l) (fun k => moraineref04_size.mono _ _) (by omega) (refsize_eq _ l hs rfl)
    rw [moraineref04_Check.l0, if_neg (by omega), List.drop_eq_nil_of_le (by omega)]
    simp only [badN, Nat.add_zero]
    rw [ht', Option.bind_some]
    by_cases h2 : (12 + totN l : Nat) > 1048576
    · rw [if_pos h2, if_pos (by omega)]
    · rw [if_neg h2, if_neg (by omega)]
  | d + 1, i, k, hi, hk => by
    subst hk
    have hlt : i < l.length := by omega
    have hd := drop_rdT l i hlt
    have w : wrap64 ((i : Int) + 1) = ((i + 1 : Nat) : Int) := by have := hs.1; unfold wrap64; omega
    rw [show 12 + l.length + (d + 1) + 1 = (12 + l.length + d + 1) + 1 by omega, moraineref04_Check.l0, if_pos (by omega), if_pos (by omega), May_eq, Option.bind_some, w, hd]
    simp only [badN]
    cases hm : mayB (rd_T65 l (i : Int)) with
    | true => simp only [if_true]; exact refcheck_loop l hs d (i + 1) _ (by omega) rfl
    | false => rfl
theorem refcheck_eq (k : Nat) (l : List Op04) (hs : Sane l) (hk : 13 + 2 * l.length ≤ k) : moraineref04_Check.f k l = some (chk l) := by
  have hl := refcheck_loop l hs l.length 0 _ (by omega) rfl
  have hl' : moraineref04_Check.l0 k l 0 = _ := at_rounds (g := fun k => moraineref04_Check.l0 k l 0) (fun k => moraineref04_Check.mono_l k _ _) (by omega) hl
  unfold moraineref04_Check.f chk
  by_cases h : (l.length : Int) > 4096
  · rw [if_pos h, if_pos h]
  · rw [if_neg h, if_neg h, hl', List.drop_zero]
def sizeOf (l : List Op04) : Int × Int := if (chk l).2 = 0 then (((12 + totN l : Nat) : Int), 0) else (0, (chk l).2)
theorem batchsize_eq (k : Nat) (l : List Op04) (hs : Sane l) (hk : 11 + l.length ≤ k) : batch_Size.f k l = some (sizeOf l) := by
  have ht' : batch_total.f k l = some ((12 + totN l : Nat) : Int) := at_rounds (g := fun k => batch_total.f k l) (fun k => batch_total.mono _ _) hk (total_eq _ l hs rfl)
  unfold batch_Size.f sizeOf
  rw [check_eq k l hs hk, Option.bind_some, ht', Option.bind_some]
  split <;> rfl
theorem refSize_eq (k : Nat) (l : List Op04) (hs : Sane l) (hk : 13 + 2 * l.length ≤ k) : moraineref04_Size.f k l = some (sizeOf l) := by
  have ht' : moraineref04_size.f k l = some ((12 + totN l : Nat) : Int) := at_rounds (g := fun k => moraineref04_size.f k l) (fun k => moraineref04_size.mono _ _) (by omega) (refsize_eq _ l hs rfl)
  unfold moraineref04_Size.f sizeOf
  rw [refcheck_eq k l hs hk, Option.bind_some, ht', Option.bind_some]
  split <;> rfl

end Go.Proofs.Ythkooncibfkepaa.G

/- Contracts typed by hand: batch.read: an operation at a place -/
namespace Go.Proofs.Ythkooncibfkepaa.G
open Go.RowKit Go.Proofs.YthkooncibfkepaaW.PrintWords Go.Proofs.YthkooncibfkepaaW.PrintLast Go.Proofs.YthkooncibfkepaaW.PrintMore
attribute [local go_sem] max2_int min2_int max_two min_two max_three min_three max_four min_four
set_option linter.unusedVariables false
set_option linter.unusedSimpArgs false

/-! batch.read: an operation at a place -/
def txt (l : List Int) (p : Int) : ByteArray × Int × Int := (codec_Text.f l p).getD (⟨#[]⟩, 0, 99)
theorem text_some (l : List Int) (p : Int) (hb : Bytes l) (hl : l.length ≤ 1099511627776) : ∃ s n e, codec_Text.f l p = some (s, n, e) ∧ ((e = 0 ∧ 0 ≤ p ∧ p + 1 ≤ n ∧ n ≤ l.length) ∨ (e ≠ 0 ∧ 0 ≤ e ∧ e ≤ 11 ∧ n = 0)) := by
  obtain ⟨v, n, e, hv, h⟩ := varint_some l p hb (by omega)
  unfold codec_Text.f
  rw [hv, Option.bind_some]
  rcases h with ⟨rfl, v0, v1, p0, n0, n1⟩ | ⟨he, e0, e1, rfl, rfl⟩
  · simp only [if_true]
    rw [if_pos v0, if_pos (by omega), if_pos n1, if_pos (by omega)]
    by_cases h2 : v > (l.length : Int) - n
    · rw [if_pos h2]
      exact ⟨_, _, _, rfl, .inr ⟨by omega, by omega, by omega, rfl⟩⟩
    · rw [if_neg h2]
      exact ⟨_, _, _, rfl, .inl ⟨rfl, p0, by omega, by omega⟩⟩
  · simp only []
    rw [if_neg he]
    exact ⟨_, _, _, rfl, .inr ⟨he, e0, e1, rfl⟩⟩
theorem txt_eq (l : List Int) (p : Int) (hb : Bytes l) (hl : l.length ≤ 1099511627776) : codec_Text.f l p = some (txt l p) ∧ (((txt l p).2.2 = 0 ∧ 0 ≤ p ∧ p + 1 ≤ (txt l p).2.1 ∧ (txt l p).2.1 ≤ l.length) ∨ ((txt l p).2.2 ≠ 0 ∧ 0 ≤ (txt l p).2.2 ∧ (txt l p).2.2 ≤ 11 ∧ (txt l p).2.1 = 0)) := by
  obtain ⟨s, n, e, h, hh⟩ := text_some l p hb hl
  have : txt l p = (s, n, e) := by unfold txt; rw [h]; rfl
  rw [this]
  exact ⟨h, hh⟩
/-- what batch.read answers: an operation, the place behind it, is it one that may be -/
def rdR (l : List Int) (a : Int) : Op04 × Int × Bool :=
  if a ≥ (l.length : Int) then (⟨0, ⟨#[]⟩, ⟨#[]⟩⟩, 0, false) else if (txt l (a + 1)).2.2 ≠ 0 then (⟨0, ⟨#[]⟩, ⟨#[]⟩⟩, 0, false)
  else if rd l a = 0 then (⟨0, (txt l (a + 1)).1, ⟨#[]⟩⟩, (txt l (a + 1)).2.1, mayB ⟨0, (txt l (a + 1)).1, ⟨#[]⟩⟩)
  else if (txt l (txt l (a + 1)).2.1).2.2 ≠ 0 then (⟨rd l a, (txt l (a + 1)).1, (txt l (txt l (a + 1)).2.1).1⟩, (txt l (txt l (a + 1)).2.1).2.1, false)
  else (⟨rd l a, (txt l (a + 1)).1, (txt l (txt l (a + 1)).2.1).1⟩, (txt l (txt l (a + 1)).2.1).2.1, mayB ⟨rd l a, (txt l (a + 1)).1, (txt l (txt l (a + 1)).2.1).1⟩)
theorem may_calls (x : Op04) (w : World) : Calls Try.prog 49 #[.agg #[.int .i64 x.f0, .string x.f1, .string x.f2]] w fun e w' => e = .returned (.bool (mayB x)) ∧ Below w.heap.size w w' :=
  batch_may.calls 1 x.f0 x.f1 x.f2 (mayB x) w (may_eq 0 x)
set_option maxHeartbeats 8000000 in
set_option maxRecDepth 100000 in
theorem batch_read_calls (A0 : Option Addr) (c0 : Nat) (l0 : List Int) (a1 : Int) (w : World) (hr0 : Kd.C (Kd.int .u8) w A0 l0.length l0) (hc0 : l0.length ≤ c0) (hb : Bytes l0) (hl : l0.length ≤ 1099511627776) (h0 : 0 ≤ a1) :
    Calls Try.prog 77 #[.slice A0 l0.length c0, .int .i64 a1] w fun e w' => e = .returned (.tuple #[.agg #[.int .i64 (rdR l0 a1).1.f0, .string (rdR l0 a1).1.f1, .string (rdR l0 a1).1.f2], .int .i64 (rdR l0 a1).2.1, .bool (rdR l0 a1).2.2]) ∧ Below w.heap.size w w' := by
  have hu := Try.underlying65
  have HR := Aside0.mk hr0
  have HC := Aside0.mk hc0
  have HB := Aside0.mk (below_alloc (Below.refl w.heap.size w) (.cells #[.int .i64 0, .string (⟨#[]⟩ : ByteArray), .string (⟨#[]⟩ : ByteArray)] 65))
  have hbk0 : (w.alloc (.cells #[.int .i64 0, .string (⟨#[]⟩ : ByteArray), .string (⟨#[]⟩ : ByteArray)] 65)).heap[w.heap.size]? = some (.cells #[.int .i64 0, .string (⟨#[]⟩ : ByteArray), .string (⟨#[]⟩ : ByteArray)] 65 (0, 0)) := by
    show (w.heap.push _)[w.heap.size]? = _
    simp
  have BK := Aside0.mk hbk0
  clear hbk0
  by_cases h1 : a1 ≥ (l0.length : Int)
  · have e : rdR l0 a1 = (⟨0, ⟨#[]⟩, ⟨#[]⟩⟩, 0, false) := by unfold rdR; rw [if_pos h1]
    rw [e]
    have b1 : decide ((l0.length : Int) ≤ a1) = true := decide_eq_true h1
    clear e hr0 hc0
    go_enter Try.func77, Try.ntmps77
    go_wp2
    refine bodyPost_ret (results_ctt rfl _ _ w.heap.size 65 #[.int .i64 0, .string (⟨#[]⟩ : ByteArray), .string (⟨#[]⟩ : ByteArray)] (0, 0) _ rfl ?bk1 Try.underlying65 rfl (by kernel_rfl)) rfl ?_
    case bk1 => exact BK.out
    exact ⟨rfl, HB.out⟩
  · have b1 : decide ((l0.length : Int) ≤ a1) = false := decide_eq_false h1
    have hlt : a1 < (l0.length : Int) := by omega
    obtain ⟨t1, hh1⟩ := txt_eq l0 (a1 + 1) hb hl
    obtain ⟨t2, hh2⟩ := txt_eq l0 (txt l0 (a1 + 1)).2.1 hb hl
    have hbyte := rd_byte hb a1 h0 hlt
    obtain ⟨ad, e1, hx⟩ := Kd.at_int (Kd.C_below HR.out HB.out) a1 h0 hlt
    cases e1
    have ew : wrap64 (a1 + 1) = a1 + 1 := by unfold wrap64; omega
    obtain ⟨R, hR⟩ : ∃ R, rdR l0 a1 = R := ⟨_, rfl⟩
    have hR2 := hR
    unfold rdR at hR2
    rw [if_neg h1] at hR2
    rw [hR]
    generalize hT1 : txt l0 (a1 + 1) = T1 at *
    obtain ⟨s1, n1, f1⟩ := T1
    simp only [] at *
    generalize hT2 : txt l0 n1 = T2 at *
    obtain ⟨s2, n2, f2⟩ := T2
    simp only [] at *
    have ewc : wrap64 (rd l0 a1) = rd l0 a1 := by unfold wrap64; omega
    generalize hc : rd l0 a1 = c at *
    have H1 := Aside0.mk t1
    have H2 := Aside0.mk t2
    have HB2 := Aside0.mk (below_alloc HB.out (.cells #[.int .i64 c, .string (⟨#[]⟩ : ByteArray), .string (⟨#[]⟩ : ByteArray)] 65))
    have hbk0 : ((w.alloc (.cells #[.int .i64 0, .string (⟨#[]⟩ : ByteArray), .string (⟨#[]⟩ : ByteArray)] 65)).alloc (.cells #[.int .i64 c, .string (⟨#[]⟩ : ByteArray), .string (⟨#[]⟩ : ByteArray)] 65)).heap[w.heap.size + 1]? = some (.cells #[.int .i64 c, .string (⟨#[]⟩ : ByteArray), .string (⟨#[]⟩ : ByteArray)] 65 (0, 0)) := by
      have := heap_alloc_new (w.alloc (.cells #[.int .i64 0, .string (⟨#[]⟩ : ByteArray), .string (⟨#[]⟩ : ByteArray)] 65)) (.cells #[.int .i64 c, .string (⟨#[]⟩ : ByteArray), .string (⟨#[]⟩ : ByteArray)] 65)
      rwa [World.size_alloc] at this
    have BK7 := Aside0.mk hbk0
    have BK4 := Aside0.mk (((below_alloc (Below.refl _ _) (.cells #[.int .i64 c, .string (⟨#[]⟩ : ByteArray), .string (⟨#[]⟩ : ByteArray)] 65)).block _ (blk_lt BK.out)).trans BK.out)
    clear hbk0 hR hT1 hT2 t1 t2 hr0 hc0 hc
    by_cases hf1 : f1 = 0
    · subst hf1
      rw [if_neg (by simp)] at hR2
      have hn1 : 0 ≤ n1 := by omega
      by_cases hc0 : c = 0
      · subst hc0
        rw [if_pos rfl] at hR2
        subst hR2
        clear hh1 hh2
        go_enter Try.func77, Try.ntmps77
        go_wp2_with fail
        (with_reducible refine (codec_Text.calls _ c0 l0 (a1 + 1) _ _ _ _ (Kd.C_below HR.out HB2.out) HC.out H1.out).mono ?_)
        rintro e w1 ⟨rfl, hd⟩
        have HB3 := Aside0.mk (below_step HB2.out hd.below)
        have BK4 := Aside0.mk ((hd.below.block _ (blk_lt BK4.out)).trans BK4.out)
        have BK7 := Aside0.mk ((hd.below.block _ (blk_lt BK7.out)).trans BK7.out)
        have z0 := blk_cell BK7.out 0
        have z1 := blk_cell BK7.out 1
        have z2 := blk_cell BK7.out 2
        have y0 := blk_frozen BK7.out 0
        have y1 := blk_frozen BK7.out 1
        have y2 := blk_frozen BK7.out 2
        have x0 := blk_cell BK4.out 0
        have x1 := blk_cell BK4.out 1
        have x2 := blk_cell BK4.out 2
        have v0 := blk_frozen BK4.out 0
        have v1 := blk_frozen BK4.out 1
        have v2 := blk_frozen BK4.out 2
        clear hd
        have B7 := Aside0.mk (show (w1.setCell ⟨w.heap.size + 1, 1, none⟩ (.string s1)).heap[w.heap.size + 1]? = some (.cells #[.int .i64 0, .string s1, .string (⟨#[]⟩ : ByteArray)] 65 (0, 0)) from blk_set BK7.out 1 _)
        have B4 := Aside0.mk (blk_far BK4.out (p := ⟨w.heap.size + 1, 1, none⟩) (by simp) (.string s1))
        have HBW := Aside0.mk (below_set HB3.out (show w.heap.size ≤ w.heap.size + 1 by omega) : Below w.heap.size w (w1.setCell ⟨w.heap.size + 1, 1, none⟩ (.string s1)))
        go_wp2_with fail
        go_region_with (first | (go_at_call 49; (with_reducible refine (may_calls ⟨0, s1, ⟨#[]⟩⟩ _).mono ?_); rintro e w5 ⟨rfl, hb5⟩; have Q7 := (hb5.block _ (blk_lt B7.out)).trans B7.out; have Q4 := (hb5.block _ (blk_lt B4.out)).trans B4.out; have HB5 := Aside0.mk (below_step (below_drew HBW.out) hb5); have m0 := blk_cell Q7 0; have m1 := blk_cell Q7 1; have m2 := blk_cell Q7 2; have k0 := blk_cell Q4 0; have k1 := blk_cell Q4 1; have k2 := blk_cell Q4 2; have j0 := blk_frozen Q4 0; have j1 := blk_frozen Q4 1; have j2 := blk_frozen Q4 2; have BQ4 := Aside0.mk Q4; clear hb5 Q7 Q4))
        all_goals (go_wp2; refine bodyPost_ret (results_ctt rfl _ _ w.heap.size 65 #[.int .i64 0, .string s1, .string (⟨#[]⟩ : ByteArray)] (0, 0) _ rfl ?bk3 Try.underlying65 rfl (by kernel_rfl)) rfl ?_; (case bk3 => exact blk_put (cs := #[.int .i64 0, .string s1, .string (⟨#[]⟩ : ByteArray)]) (blk_put (cs := #[.int .i64 0, .string (⟨#[]⟩ : ByteArray), .string (⟨#[]⟩ : ByteArray)]) (blk_put (cs := #[.int .i64 0, .string (⟨#[]⟩ : ByteArray), .string (⟨#[]⟩ : ByteArray)]) BQ4.out 0 _ rfl) 1 _ rfl) 2 _ rfl); exact ⟨by first | rfl | (simp; done), below_set (below_set (below_set HB5.out (Nat.le_refl _)) (Nat.le_refl _)) (Nat.le_refl _)⟩)
      · rw [if_neg hc0] at hR2
        have d0 : (c == 0) = false := beq_eq_false_iff_ne.2 hc0
        have d1 : (c != 0) = true := bne_iff_ne.2 hc0
        by_cases hf2 : f2 = 0
        · subst hf2
          rw [if_neg (by simp)] at hR2
          subst hR2
          clear hh1 hh2 hc0
          go_enter Try.func77, Try.ntmps77
          go_wp2_with fail
          (with_reducible refine (codec_Text.calls _ c0 l0 (a1 + 1) _ _ _ _ (Kd.C_below HR.out HB2.out) HC.out H1.out).mono ?_)
          rintro e w1 ⟨rfl, hd⟩
          have HB3 := Aside0.mk (below_step HB2.out hd.below)
          have BK4 := Aside0.mk ((hd.below.block _ (blk_lt BK4.out)).trans BK4.out)
          have BK7 := Aside0.mk ((hd.below.block _ (blk_lt BK7.out)).trans BK7.out)
          have z0 := blk_cell BK7.out 0
          have z1 := blk_cell BK7.out 1
          have z2 := blk_cell BK7.out 2
          have y0 := blk_frozen BK7.out 0
          have y1 := blk_frozen BK7.out 1
          have y2 := blk_frozen BK7.out 2
          have x0 := blk_cell BK4.out 0
          have x1 := blk_cell BK4.out 1
          have x2 := blk_cell BK4.out 2
          have v0 := blk_frozen BK4.out 0
          have v1 := blk_frozen BK4.out 1
          have v2 := blk_frozen BK4.out 2
          clear hd
          have HBV := Aside0.mk (below_set HB3.out (show w.heap.size ≤ w.heap.size + 1 by omega) : Below w.heap.size w (w1.setCell ⟨w.heap.size + 1, 1, none⟩ (.string s1)))
          have A7 := Aside0.mk (show (w1.setCell ⟨w.heap.size + 1, 1, none⟩ (.string s1)).heap[w.heap.size + 1]? = some (.cells #[.int .i64 c, .string s1, .string (⟨#[]⟩ : ByteArray)] 65 (0, 0)) from blk_set BK7.out 1 _)
          have A4 := Aside0.mk (blk_far BK4.out (p := ⟨w.heap.size + 1, 1, none⟩) (by simp) (.string s1))
          go_wp2_with fail
          (with_reducible refine (codec_Text.calls _ c0 l0 n1 _ _ _ _ (Kd.C_below HR.out HBV.out) HC.out H2.out).mono ?_)
          rintro e w3 ⟨rfl, hd⟩
          have HB4 := Aside0.mk (below_step HBV.out hd.below)
          have BK4 := Aside0.mk ((hd.below.block _ (blk_lt A4.out)).trans A4.out)
          have BK7 := Aside0.mk ((hd.below.block _ (blk_lt A7.out)).trans A7.out)
          clear z0 z1 z2 y0 y1 y2 x0 x1 x2 v0 v1 v2
          have z0 := blk_cell BK7.out 0
          have z1 := blk_cell BK7.out 1
          have z2 := blk_cell BK7.out 2
          have y0 := blk_frozen BK7.out 0
          have y1 := blk_frozen BK7.out 1
          have y2 := blk_frozen BK7.out 2
          have x0 := blk_cell BK4.out 0
          have x1 := blk_cell BK4.out 1
          have x2 := blk_cell BK4.out 2
          have v0 := blk_frozen BK4.out 0
          have v1 := blk_frozen BK4.out 1
          have v2 := blk_frozen BK4.out 2
          clear hd
          have B7 := Aside0.mk (show (w3.setCell ⟨w.heap.size + 1, 2, none⟩ (.string s2)).heap[w.heap.size + 1]? = some (.cells #[.int .i64 c, .string s1, .string s2] 65 (0, 0)) from blk_set BK7.out 2 _)
          have B4 := Aside0.mk (blk_far BK4.out (p := ⟨w.heap.size + 1, 2, none⟩) (by simp) (.string s2))
          have HBW := Aside0.mk (below_set HB4.out (show w.heap.size ≤ w.heap.size + 1 by omega) : Below w.heap.size w (w3.setCell ⟨w.heap.size + 1, 2, none⟩ (.string s2)))
          go_wp2_with fail
          go_region_with (first | (go_at_call 49; (with_reducible refine (may_calls ⟨c, s1, s2⟩ _).mono ?_); rintro e w5 ⟨rfl, hb5⟩; have Q7 := (hb5.block _ (blk_lt B7.out)).trans B7.out; have Q4 := (hb5.block _ (blk_lt B4.out)).trans B4.out; have HB5 := Aside0.mk (below_step (below_drew HBW.out) hb5); have m0 := blk_cell Q7 0; have m1 := blk_cell Q7 1; have m2 := blk_cell Q7 2; have k0 := blk_cell Q4 0; have k1 := blk_cell Q4 1; have k2 := blk_cell Q4 2; have j0 := blk_frozen Q4 0; have j1 := blk_frozen Q4 1; have j2 := blk_frozen Q4 2; have BQ4 := Aside0.mk Q4; clear hb5 Q7 Q4))
          all_goals (go_wp2; refine bodyPost_ret (results_ctt rfl _ _ w.heap.size 65 #[.int .i64 c, .string s1, .string s2] (0, 0) _ rfl ?bk4 Try.underlying65 rfl (by kernel_rfl)) rfl ?_; (case bk4 => exact blk_put (cs := #[.int .i64 c, .string s1, .string (⟨#[]⟩ : ByteArray)]) (blk_put (cs := #[.int .i64 c, .string (⟨#[]⟩ : ByteArray), .string (⟨#[]⟩ : ByteArray)]) (blk_put (cs := #[.int .i64 0, .string (⟨#[]⟩ : ByteArray), .string (⟨#[]⟩ : ByteArray)]) BQ4.out 0 _ rfl) 1 _ rfl) 2 _ rfl); exact ⟨by first | rfl | (simp; done), below_set (below_set (below_set HB5.out (Nat.le_refl _)) (Nat.le_refl _)) (Nat.le_refl _)⟩)
        · rw [if_pos hf2] at hR2
          subst hR2
          have b3 : (f2 != 0) = true := bne_iff_ne.2 hf2
          have b4 : (f2 == 0) = false := beq_eq_false_iff_ne.2 hf2
          clear hh1 hh2 hc0 hf2
          go_enter Try.func77, Try.ntmps77
          go_wp2_with fail
          (with_reducible refine (codec_Text.calls _ c0 l0 (a1 + 1) _ _ _ _ (Kd.C_below HR.out HB2.out) HC.out H1.out).mono ?_)
          rintro e w1 ⟨rfl, hd⟩
          have HB3 := Aside0.mk (below_step HB2.out hd.below)
          have BK4 := Aside0.mk ((hd.below.block _ (blk_lt BK4.out)).trans BK4.out)
          have BK7 := Aside0.mk ((hd.below.block _ (blk_lt BK7.out)).trans BK7.out)
          have z0 := blk_cell BK7.out 0
          have z1 := blk_cell BK7.out 1
          have z2 := blk_cell BK7.out 2
          have y0 := blk_frozen BK7.out 0
          have y1 := blk_frozen BK7.out 1
          have y2 := blk_frozen BK7.out 2
          have x0 := blk_cell BK4.out 0
          have x1 := blk_cell BK4.out 1
          have x2 := blk_cell BK4.out 2
          have v0 := blk_frozen BK4.out 0
          have v1 := blk_frozen BK4.out 1
          have v2 := blk_frozen BK4.out 2
          clear hd
          have HBV := Aside0.mk (below_set HB3.out (show w.heap.size ≤ w.heap.size + 1 by omega) : Below w.heap.size w (w1.setCell ⟨w.heap.size + 1, 1, none⟩ (.string s1)))
          have A7 := Aside0.mk (show (w1.setCell ⟨w.heap.size + 1, 1, none⟩ (.string s1)).heap[w.heap.size + 1]? = some (.cells #[.int .i64 c, .string s1, .string (⟨#[]⟩ : ByteArray)] 65 (0, 0)) from blk_set BK7.out 1 _)
          have A4 := Aside0.mk (blk_far BK4.out (p := ⟨w.heap.size + 1, 1, none⟩) (by simp) (.string s1))
          go_wp2_with fail
          (with_reducible refine (codec_Text.calls _ c0 l0 n1 _ _ _ _ (Kd.C_below HR.out HBV.out) HC.out H2.out).mono ?_)
          rintro e w3 ⟨rfl, hd⟩
          have HB4 := Aside0.mk (below_step HBV.out hd.below)
          have BK4 := Aside0.mk ((hd.below.block _ (blk_lt A4.out)).trans A4.out)
          have BK7 := Aside0.mk ((hd.below.block _ (blk_lt A7.out)).trans A7.out)
          clear z0 z1 z2 y0 y1 y2 x0 x1 x2 v0 v1 v2
          have z0 := blk_cell BK7.out 0
          have z1 := blk_cell BK7.out 1
          have z2 := blk_cell BK7.out 2
          have y0 := blk_frozen BK7.out 0
          have y1 := blk_frozen BK7.out 1
          have y2 := blk_frozen BK7.out 2
          have x0 := blk_cell BK4.out 0
          have x1 := blk_cell BK4.out 1
          have x2 := blk_cell BK4.out 2
          have v0 := blk_frozen BK4.out 0
          have v1 := blk_frozen BK4.out 1
          have v2 := blk_frozen BK4.out 2
          clear hd
          have B7 := Aside0.mk (show (w3.setCell ⟨w.heap.size + 1, 2, none⟩ (.string s2)).heap[w.heap.size + 1]? = some (.cells #[.int .i64 c, .string s1, .string s2] 65 (0, 0)) from blk_set BK7.out 2 _)
          have B4 := Aside0.mk (blk_far BK4.out (p := ⟨w.heap.size + 1, 2, none⟩) (by simp) (.string s2))
          have HBW := Aside0.mk (below_set HB4.out (show w.heap.size ≤ w.heap.size + 1 by omega) : Below w.heap.size w (w3.setCell ⟨w.heap.size + 1, 2, none⟩ (.string s2)))
          go_wp2_with fail
          go_region_with (fail)
          all_goals (go_wp2; refine bodyPost_ret (results_ctt rfl _ _ w.heap.size 65 #[.int .i64 c, .string s1, .string s2] (0, 0) _ rfl ?bk5 Try.underlying65 rfl (by kernel_rfl)) rfl ?_; (case bk5 => exact blk_put (cs := #[.int .i64 c, .string s1, .string (⟨#[]⟩ : ByteArray)]) (blk_put (cs := #[.int .i64 c, .string (⟨#[]⟩ : ByteArray), .string (⟨#[]⟩ : ByteArray)]) (blk_put (cs := #[.int .i64 0, .string (⟨#[]⟩ : ByteArray), .string (⟨#[]⟩ : ByteArray)]) (show (w3.setCell ⟨w.heap.size + 1, 2, none⟩ (.string s2)).drew.heap[w.heap.size]? = _ from B4.out) 0 _ rfl) 1 _ rfl) 2 _ rfl); exact ⟨by first | rfl | (simp; done), below_set (below_set (below_set (below_drew HBW.out) (Nat.le_refl _)) (Nat.le_refl _)) (Nat.le_refl _)⟩)
    · rw [if_pos hf1] at hR2
      subst hR2
      have b3 : (f1 != 0) = true := bne_iff_ne.2 hf1
      have b4 : (f1 == 0) = false := beq_eq_false_iff_ne.2 hf1
      clear hh1 hh2 hf1
      go_enter Try.func77, Try.ntmps77
      go_wp2_with fail
      (with_reducible refine (codec_Text.calls _ c0 l0 (a1 + 1) _ _ _ _ (Kd.C_below HR.out HB2.out) HC.out H1.out).mono ?_)
      rintro e w1 ⟨rfl, hd⟩
      have HB3 := Aside0.mk (below_step HB2.out hd.below)
      have BK4 := Aside0.mk ((hd.below.block _ (blk_lt BK4.out)).trans BK4.out)
      have z0 := blk_cell BK4.out 0
      have z1 := blk_cell BK4.out 1
      have z2 := blk_cell BK4.out 2
      have y0 := blk_frozen BK4.out 0
      have y1 := blk_frozen BK4.out 1
      have y2 := blk_frozen BK4.out 2
      clear hd
      go_wp2
      refine bodyPost_ret (results_ctt rfl _ _ w.heap.size 65 #[.int .i64 0, .string (⟨#[]⟩ : ByteArray), .string (⟨#[]⟩ : ByteArray)] (0, 0) _ rfl ?bk2 Try.underlying65 rfl (by kernel_rfl)) rfl ?_
      case bk2 => exact blk_put (cs := #[.int .i64 0, .string (⟨#[]⟩ : ByteArray), .string (⟨#[]⟩ : ByteArray)]) (blk_put (cs := #[.int .i64 0, .string (⟨#[]⟩ : ByteArray), .string (⟨#[]⟩ : ByteArray)]) (blk_put (cs := #[.int .i64 0, .string (⟨#[]⟩ : ByteArray), .string (⟨#[]⟩ : ByteArray)]) BK4.out 0 _ rfl) 1 _ rfl) 2 _ rfl
      exact ⟨rfl, below_set (below_set (below_set HB3.out (Nat.le_refl _)) (Nat.le_refl _)) (Nat.le_refl _)⟩

end Go.Proofs.Ythkooncibfkepaa.G

/- Printed by the session's program over the kit's print, out of the translation: functions as plain Lean functions, and the proofs that the calls come to them. -/
namespace Go.Proofs.Ythkooncibfkepaa.G
open Go.RowKit Go.Proofs.YthkooncibfkepaaW.PrintWords Go.Proofs.YthkooncibfkepaaW.PrintLast Go.Proofs.YthkooncibfkepaaW.PrintMore
attribute [local go_sem] max2_int min2_int max_two min_two max_three min_three max_four min_four   -- for this text's walks alone
set_option linter.unusedVariables false
set_option linter.unusedSimpArgs false

/-! ### batch_Head: function 35 -/
def batch_Head.f (k : Nat) (l0 : List Int) : Option (Int × Int × Int) := if (l0.length : Int) < 12 then (some (0, 0, 41)) else ((codec_Fixed64.f k l0 0).bind fun bt221 => ((codec_Fixed32.f k l0 8).bind fun bt224 => (some (bt221.1, wrap64 (bt224.1), 0))))
theorem batch_Head.mono : ∀ a0 k, LeO (batch_Head.f k a0) (batch_Head.f (k + 1) a0) := by
  intro a0 k
  unfold batch_Head.f
  repeat' first
      | (with_reducible exact codec_Fixed32.mono _ _ _)
      | (with_reducible exact codec_Fixed64.mono _ _ _)
      | (with_reducible exact LeO.refl _)
      | (with_reducible exact LeO.none _)
      | (with_reducible refine LeO.ite ?_ ?_)
      | (with_reducible refine LeO.bind ?_ (fun _ => ?_))
      | exact codec_Fixed32.mono _ _ _
      | exact codec_Fixed64.mono _ _ _
      | exact LeO.none _
      | refine LeO.ite ?_ ?_
      | refine LeO.bind ?_ (fun _ => ?_)
set_option maxHeartbeats 8000000 in
set_option maxRecDepth 100000 in
theorem batch_Head.calls (k : Nat) (A0 : Option Addr) (c0 : Nat) (l0 : List Int) (r1 : Int) (r2 : Int) (r3 : Int) (w : World) (hr0 : Kd.C (Kd.int .u8) w A0 l0.length l0) (hc0 : l0.length ≤ c0) (h : batch_Head.f k l0 = some (r1, r2, r3)) :
    Calls Try.prog 35 #[.slice A0 l0.length c0] w fun e w' => e = .returned (.tuple #[.int .u64 r1, .int .i64 r2, .int .i64 r3]) ∧ Drawn0 w w' := by
  have HR0 := Aside0.mk hr0
  have HC0 := Aside0.mk hc0
  clear hr0 hc0
  have H : (if (l0.length : Int) < 12 then (some (0, 0, 41)) else ((codec_Fixed64.f k l0 0).bind fun bt221 => ((codec_Fixed32.f k l0 8).bind fun bt224 => (some (bt221.1, wrap64 (bt224.1), 0))))) = some (r1, r2, r3) := h
  clear h
  by_cases c2 : (l0.length : Int) < 12
  · rw [if_pos c2] at H
    have c2b0 : decide ((l0.length : Int) < 12) = true := decide_eq_true c2
    have c2b1 : decide (l0.length < 12) = true := decide_eq_true (by omega)
    clear c2
    simp only [Option.some.injEq, Prod.mk.injEq] at H
    obtain ⟨rfl, rfl, rfl⟩ := H
    go_enter Try.func35, Try.ntmps35
    go_wp2
    go_ret3
    exact ⟨by first | rfl | (simp; done) | (simp [*]; done), by repeat (first | exact Drawn0.refl _ | apply Drawn0.step)⟩
  · rw [if_neg c2] at H
    have c2b0 : decide ((l0.length : Int) < 12) = false := decide_eq_false c2
    have c2b1 : decide (l0.length < 12) = false := decide_eq_false (by omega)
    clear c2
    replace H := Option.bind_eq_some_iff.mp H
    obtain ⟨⟨t221, t222, t223⟩, A30, H⟩ := H
    replace H : ((codec_Fixed32.f k l0 8).bind fun bt224 => (some (t221, wrap64 (bt224.1), 0))) = some (r1, r2, r3) := H
    have A3 := Aside0.mk A30
    clear A30
    replace H := Option.bind_eq_some_iff.mp H
    obtain ⟨⟨t224, t225, t226⟩, A40, H⟩ := H
    replace H : (some (t221, wrap64 (t224), 0)) = some (r1, r2, r3) := H
    have A4 := Aside0.mk A40
    clear A40
    simp only [Option.some.injEq, Prod.mk.injEq] at H
    obtain ⟨rfl, rfl, rfl⟩ := H
    go_enter Try.func35, Try.ntmps35
    go_wp2_with (first | ((with_reducible refine gate_callee (f := 65) rfl ?_); refine goesL_ (some 13) rfl rfl Try.func65 (by kernel_rfl) rfl #[.slice A0 l0.length c0, .int .i64 0] rfl (by (try simp only [List.map_toArray, List.map_cons, List.map_nil]); first | done | rfl | (simp only [List.length_drop, List.length_take]; rfl)) ?_; (with_reducible refine (codec_Fixed64.calls k _ _ l0 0 t221 t222 t223 _ ?side1 ?side2 A3.out).mono ?_); (case side1 => repeat (first | exact HR0.out | (with_reducible refine Kd.C_alloc ?_ _) | (with_reducible refine Kd.C_drewN ?_ _) | (with_reducible refine Kd.C_drew ?_))); (case side2 => exact HC0.out); rintro e w' ⟨rfl, ⟨nd, rfl⟩⟩; refine ⟨_, rfl, ?_⟩) | ((with_reducible refine gate_callee (f := 66) rfl ?_); refine goesL_ (some 19) rfl rfl Try.func66 (by kernel_rfl) rfl #[.slice A0 l0.length c0, .int .i64 8] rfl (by (try simp only [List.map_toArray, List.map_cons, List.map_nil]); first | done | rfl | (simp only [List.length_drop, List.length_take]; rfl)) ?_; (with_reducible refine (codec_Fixed32.calls k _ _ l0 8 t224 t225 t226 _ ?side1 ?side2 A4.out).mono ?_); (case side1 => repeat (first | exact HR0.out | (with_reducible refine Kd.C_alloc ?_ _) | (with_reducible refine Kd.C_drewN ?_ _) | (with_reducible refine Kd.C_drew ?_))); (case side2 => exact HC0.out); rintro e w' ⟨rfl, ⟨nd, rfl⟩⟩; refine ⟨_, rfl, ?_⟩))
    go_ret3
    exact ⟨by first | rfl | (simp; done) | (simp [*]; done), by repeat (first | exact Drawn0.refl _ | apply Drawn0.step)⟩

end Go.Proofs.Ythkooncibfkepaa.G

/- Contracts typed by hand: batch.all: the iterator over a batch's operations -/
namespace Go.Proofs.Ythkooncibfkepaa.G
open Go.RowKit Go.Proofs.YthkooncibfkepaaW.PrintWords Go.Proofs.YthkooncibfkepaaW.PrintLast Go.Proofs.YthkooncibfkepaaW.PrintMore
attribute [local go_sem] max2_int min2_int max_two min_two max_three min_three max_four min_four
set_option linter.unusedVariables false
set_option linter.unusedSimpArgs false

/-! batch.all: the iterator over a batch's operations -/
open Go.Shelf
attribute [local go_sem] Oper.semAt_some
/-- an operation that comes: its number, itself, the place behind it -/
abbrev Gone := Int × Op04 × Int
def gos (l : List Int) (seq : Int) : Nat → Nat → Int → List Gone
  | 0, _, _ => []
  | d + 1, i, p => if (rdR l p).2.2 = true then (IntKind.u64.wrap (seq + (i : Int)), (rdR l p).1, (rdR l p).2.1) :: gos l seq d (i + 1) (rdR l p).2.1 else []
def headR (l : List Int) : Int × Int × Int := if l.length < 12 then (0, 0, 41) else (le (seg l 0 8), le (seg l 8 4), 0)
def goneL (l : List Int) : List Gone := if l.length < 12 then [] else gos l (le (seg l 0 8)) (le (seg l 8 4)).toNat 0 12
theorem seg8_small (l : List Int) (hb : Bytes l) : 0 ≤ le (seg l 0 8) ∧ le (seg l 0 8) < 18446744073709551616 := le_small (seg l 0 8) (seg_bytes hb _ _) 8 (by unfold seg; rw [List.length_take]; omega) (by omega)
theorem seg4_small (l : List Int) (hb : Bytes l) : 0 ≤ le (seg l 8 4) ∧ le (seg l 8 4) < 4294967296 := by
  have h := le_range (seg l 8 4) (seg_bytes hb _ _)
  have hl : (seg l 8 4).length ≤ 4 := by unfold seg; rw [List.length_take]; omega
  have h1 : (2 : Nat) ^ (8 * (seg l 8 4).length) ≤ 2 ^ 32 := Nat.pow_le_pow_right (by decide) (by omega)
  have h2 : (2 : Nat) ^ 32 = 4294967296 := by decide
  have h3 : (((2 : Nat) ^ (8 * (seg l 8 4).length) : Nat) : Int) = (2 : Int) ^ (8 * (seg l 8 4).length) := by rw [Int.natCast_pow]; rfl
  omega
theorem head_eq (k : Nat) (l : List Int) (hb : Bytes l) (hl : l.length ≤ 1099511627776) (hk : 10 ≤ k) : batch_Head.f k l = some (headR l) := by
  unfold batch_Head.f headR
  by_cases h : l.length < 12
  · rw [if_pos (by omega), if_pos h]
  · rw [if_neg (by omega), if_neg h]
    have e8 := fixed_eq l 0 8 k hb (by omega) (by omega) hk
    have e4 := fixed_eq l 8 4 k hb (by omega) (by omega) hk
    have f8 : fixv l 0 8 = (le (seg l 0 8), 8, 0) := by
      unfold fixv
      rw [if_neg (by omega), if_neg (by omega), if_neg (by omega)]
      rfl
    have f4 : fixv l 8 4 = (le (seg l 8 4), 12, 0) := by
      unfold fixv
      rw [if_neg (by omega), if_neg (by omega), if_neg (by omega)]
      rfl
    rw [f8] at e8
    rw [f4] at e4
    have h4 := seg4_small l hb
    have e8' : codec_read.f k l 0 8 = some (le (seg l 0 8), 8, 0) := e8
    have e4' : codec_read.f k l 8 4 = some (le (seg l 8 4), 12, 0) := e4
    unfold codec_Fixed64.f codec_Fixed32.f
    rw [e8', Option.bind_some, Option.bind_some, e4', Option.bind_some, Option.bind_some]
    have w : wrap64 (le (seg l 8 4) % 4294967296) = le (seg l 8 4) := by unfold wrap64; omega
    simp only []
    rw [w]
theorem rdR_next (l : List Int) (hb : Bytes l) (hl : l.length ≤ 1099511627776) (p : Int) (h : (rdR l p).2.2 = true) : 0 ≤ (rdR l p).2.1 ∧ p < (rdR l p).2.1 ∧ (rdR l p).2.1 ≤ l.length := by
  have h1 := (txt_eq l (p + 1) hb hl).2
  have h2 := (txt_eq l (txt l (p + 1)).2.1 hb hl).2
  unfold rdR at h ⊢
  by_cases c1 : p ≥ (l.length : Int)
  · rw [if_pos c1] at h; exact absurd h (by simp)
  · rw [if_neg c1] at h ⊢
    by_cases c2 : (txt l (p + 1)).2.2 ≠ 0
    · rw [if_pos c2] at h; exact absurd h (by simp)
    · rw [if_neg c2] at h ⊢
      by_cases c3 : rd l p = 0
      · rw [if_pos c3]; simp only []; omega
      · rw [if_neg c3] at h ⊢
        by_cases c4 : (txt l (txt l (p + 1)).2.1).2.2 ≠ 0
        · rw [if_pos c4] at h; exact absurd h (by simp)
        · rw [if_neg c4]; simp only []; omega
theorem all_calls (A : Option Addr) (n c : Nat) (w : World) : Calls Try.prog 63 #[.slice A n c] w fun e w' => e = .returned (.func (.func 76) #[] #[.pointer (some ⟨w.heap.size, 0, none⟩)]) ∧ w' = w.alloc (.cells #[.slice A n c] 33) := by
  go_enter Try.func63, Try.ntmps63
  go_wp2
  go_ret
  exact ⟨rfl, rfl⟩
/-- what a round that goes on keeps: all blocks below n₀, but for some -/
def KpS (n₀ : Nat) (S : Nat → Prop) (A B : World) : Prop := A.heap.size ≤ B.heap.size ∧ ∀ k, k < n₀ → ¬ S k → B.heap[k]? = A.heap[k]?
theorem KpS.refl (n₀ : Nat) (S : Nat → Prop) (A : World) : KpS n₀ S A A := ⟨Nat.le_refl _, fun _ _ _ => rfl⟩
theorem KpS.trans {n₀ : Nat} {S : Nat → Prop} {A B C : World} (h : KpS n₀ S A B) (k : KpS n₀ S B C) : KpS n₀ S A C := ⟨Nat.le_trans h.1 k.1, fun i hi hs => (k.2 i hi hs).trans (h.2 i hi hs)⟩
theorem KpS.below {n₀ : Nat} {S : Nat → Prop} {A B C : World} (h : KpS n₀ S A B) (hn : n₀ ≤ B.heap.size) (k : Below B.heap.size B C) : KpS n₀ S A C := h.trans ⟨k.size, fun i hi _ => k.block i (by omega)⟩
def encG (g : Gone) : Array Value := #[.agg #[.int .u64 g.1, .int .i64 g.2.1.f0, .string g.2.1.f1, .string g.2.1.f2, .int .i64 g.2.2]]
set_option maxHeartbeats 8000000 in
set_option maxRecDepth 100000 in
theorem all1_in (l : Nat) (n₀ Bn : Nat) (S : Nat → Prop) (A : Option Addr) (c : Nat) (b : List Int) (hb : Bytes b) (hlen : b.length ≤ 1099511627776) (hc : b.length ≤ c) (J Jx : List Gone → World → Prop) (W : World) (hn : n₀ ≤ W.heap.size)
    (hread : ∀ W', KpS n₀ S W W' → Kd.C (Kd.int .u8) W' A b.length b ∧ W'.cell? ⟨Bn, 0, none⟩ = some (.slice A b.length c))
    (hJ : ∀ pre W1 W2, J pre W1 → Below W1.heap.size W1 W2 → J pre W2)
    (hY : ∀ pre x W1, J pre W1 → pre.length < (goneL b).length → YieldAt Fence.wide 1 Try.prog l (encG x) W1 fun e W' =>
      (e = .returned (.bool true) ∧ J (pre ++ [x]) W' ∧ KpS n₀ S W1 W') ∨ (e = .returned (.bool false) ∧ Jx (pre ++ [x]) W'))
    (h0 : J [] W) :
    CallsIn Fence.wide 2 Try.prog 76 #[.func (.yield l) #[] #[], .pointer (some ⟨Bn, 0, none⟩)] W fun e W' => (∃ v, e = .returned v) ∧
      ((∃ ys, ys = goneL b ∧ J ys W') ∨ (∃ pre, pre <+: goneL b ∧ Jx pre W')) := by
  have HREAD := Aside0.mk hread
  have HJ := Aside0.mk hJ
  have HY := Aside0.mk hY
  have H0 := Aside0.mk h0
  have HBY := Aside0.mk hb
  have HC := Aside0.mk hc
  have HN := Aside0.mk hn
  have HLEN := Aside0.mk hlen
  have HHD := Aside0.mk (head_eq 10 b hb hlen (Nat.le_refl _))
  have hcell := (hread W (KpS.refl _ _ _)).2
  have hs8 := seg8_small b hb
  have hs4 := seg4_small b hb
  have HL := Aside0.mk (rfl : goneL b = goneL b)
  clear hread hJ hY h0 hb hc hn hlen
  unfold headR at HHD
  by_cases h12 : b.length < 12
  · rw [if_pos h12] at HHD
    refine callsIn_of_wp Try.func76 rfl trivial ?_ rfl
    simp only [Try.ntmps76, List.size_toArray, List.length_cons, List.length_nil, Nat.reduceAdd, Nat.reduceSub, Array.replicate_succ, Array.replicate_zero, List.push_toArray, List.append_toArray, List.nil_append, List.cons_append]
    gi_wp2_with fail
    refine ⟨trivial, ?_⟩
    (with_reducible refine (callsIn_wide.2 (batch_Head.calls 10 A c b _ _ _ _ (HREAD.out _ (KpS.refl _ _ _)).1 HC.out HHD.out)).mono ?_)
    rintro e w1 ⟨rfl, hd⟩
    have HJ1 := Aside0.mk (HJ.out _ _ _ H0.out hd.below)
    clear hd
    gi_wp2
    refine bodyPost_ret (results_none rfl _ _ _) rfl ?_
    exact ⟨⟨_, rfl⟩, .inl ⟨[], by unfold goneL; rw [if_pos h12], HJ1.out⟩⟩
  · rw [if_neg h12] at HHD
    obtain ⟨cnt, hcnt⟩ := Int.eq_ofNat_of_zero_le hs4.1
    obtain ⟨L, hLL⟩ : ∃ L, goneL b = L := ⟨_, rfl⟩
    have HLL := Aside0.mk hLL
    obtain ⟨seq, hseq⟩ : ∃ seq, le (seg b 0 8) = seq := ⟨_, rfl⟩
    rw [hcnt, hseq] at HHD
    have hL0 : L = gos b seq cnt 0 12 := by rw [← hLL]; unfold goneL; rw [if_neg h12, hcnt, Int.toNat_natCast, hseq]
    have HL0 := Aside0.mk hL0
    have hc4 : cnt < 4294967296 := by omega
    have hseq0 : 0 ≤ seq ∧ seq < 18446744073709551616 := by omega
    rw [hLL]
    rw [hLL] at HY
    clear HL hLL hcnt hs4 hs8 hseq hL0 h12
    refine callsIn_of_wp Try.func76 rfl trivial ?_ rfl
    simp only [Try.ntmps76, List.size_toArray, List.length_cons, List.length_nil, Nat.reduceAdd, Nat.reduceSub, Array.replicate_succ, Array.replicate_zero, List.push_toArray, List.append_toArray, List.nil_append, List.cons_append]
    gi_wp2_with fail
    refine ⟨trivial, ?_⟩
    (with_reducible refine (callsIn_wide.2 (batch_Head.calls 10 A c b _ _ _ _ (HREAD.out _ (KpS.refl _ _ _)).1 HC.out HHD.out)).mono ?_)
    rintro e w1 ⟨rfl, hd⟩
    have HJ1 := Aside0.mk (HJ.out _ _ _ H0.out hd.below)
    have HK1 := Aside0.mk ((KpS.refl n₀ S W).below HN.out hd.below)
    clear hd hcell
    gi_wp2
    gi_loopw [6, 20] (fun v6 v20 wr => ∃ (pre : List Gone) (i : Nat) (p : Int), v6 = .int .i64 p ∧ v20 = .int .i64 (i : Int) ∧ i ≤ cnt ∧ 0 ≤ p ∧ Aside0 (L = pre ++ gos b seq (cnt - i) i p) ∧ Aside0 (J pre wr) ∧ Aside0 (KpS n₀ S W wr)) (fun _ v20 _ => cnt - (intOf v20).toNat)
    case atStart => exact ⟨[], 0, 12, rfl, rfl, by omega, by omega, HL0, HJ1, HK1⟩
    case round =>
      clear HL0 HJ1 HK1
      obtain ⟨pre, i, p, rfl, rfl, hi, hp, HL, HJS, HK⟩ := hrel
      have hcell := (HREAD.out wr HK.out).2
      have hnr : n₀ ≤ wr.heap.size := Nat.le_trans HN.out HK.out.1
      have HNR := Aside0.mk hnr
      clear hnr
      by_cases hlt : i < cnt
      · have b1 : decide ((i : Int) < (cnt : Int)) = true := decide_eq_true (by omega)
        have hL := HL.out
        rw [show cnt - i = (cnt - (i + 1)) + 1 by omega] at hL
        simp only [gos] at hL
        obtain ⟨R, hR⟩ : ∃ R, rdR b p = R := ⟨_, rfl⟩
        have HRD := Aside0.mk (batch_read_calls A c b p wr (HREAD.out wr HK.out).1 HC.out HBY.out HLEN.out hp)
        rw [hR] at hL HRD
        obtain ⟨x, q, ok⟩ := R
        simp only [] at hL
        clear HL
        gi_wp2_with fail
        refine ⟨trivial, ?_⟩
        (with_reducible refine (callsIn_wide.2 HRD.out).mono ?_)
        rintro e w2 ⟨rfl, hb2⟩
        have HJ2 := Aside0.mk (HJ.out _ _ _ HJS.out hb2)
        have HK2 := Aside0.mk (HK.out.below HNR.out hb2)
        clear hb2
        cases ok with
        | false =>
          rw [if_neg Bool.false_ne_true, List.append_nil] at hL
          have HL3 := Aside0.mk hL
          have HJ3 := Aside0.mk (HJ.out _ _ _ HJ2.out (below_alloc (Below.refl _ _) (.cells #[.int .i64 x.f0, .string x.f1, .string x.f2] 65)))
          clear hL
          gi_wp2
          refine ⟨fun _ h => (by cases h), ?_⟩
          gi_wp2
          refine bodyPost_ret (results_none rfl _ _ _) rfl ?_
          exact ⟨⟨_, rfl⟩, .inl ⟨pre, HL3.out.symm, HJ3.out⟩⟩
        | true =>
          rw [if_pos rfl] at hL
          have HL3 := Aside0.mk hL
          have hlp : pre.length < L.length := by rw [hL]; simp
          have HJ3 := Aside0.mk (HJ.out _ _ _ HJ2.out (below_alloc (Below.refl _ _) (.cells #[.int .i64 x.f0, .string x.f1, .string x.f2] 65)))
          have HK3 := Aside0.mk (HK2.out.below (Nat.le_trans HN.out HK2.out.1) (below_alloc (Below.refl _ _) (.cells #[.int .i64 x.f0, .string x.f1, .string x.f2] 65)))
          obtain ⟨fn, tmps, assign, body, hy, hR2⟩ := HY.out pre (IntKind.u64.wrap (seq + (i : Int)), x, q) _ HJ3.out hlp
          simp only [encG] at hy
          have eu : IntKind.u64.wrap (i : Int) = (i : Int) := by rw [Go.IntKind.wrap_u64]; omega
          have hq := (rdR_next b HBY.out HLEN.out p (by rw [hR])).1
          rw [hR] at hq
          have ew : wrap64 ((i : Int) + 1) = ((i + 1 : Nat) : Int) := by unfold wrap64; omega
          clear hL hlp
          gi_wp2
          refine hR2.mono ?_
          rintro e W3 (⟨rfl, hJ4, hk4⟩ | ⟨rfl, hJx4⟩)
          · have HJ4 := Aside0.mk hJ4
            have HK4 := Aside0.mk (HK3.out.trans hk4)
            have HL4 := Aside0.mk (show L = (pre ++ [(IntKind.u64.wrap (seq + (i : Int)), x, q)]) ++ gos b seq (cnt - (i + 1)) (i + 1) q by rw [HL3.out]; simp)
            clear hJ4 hk4 hR2
            gi_wp2
            go_roundw
            case rel => exact ⟨_, i + 1, q, rfl, by go_num, by omega, hq, HL4, HJ4, HK4⟩
            case measure => simp only [intOf]; omega
          · have HL4 := Aside0.mk (show (pre ++ [(IntKind.u64.wrap (seq + (i : Int)), x, q)]) <+: L by rw [HL3.out]; exact ⟨gos b seq (cnt - (i + 1)) (i + 1) q, by simp⟩)
            have HJX := Aside0.mk hJx4
            clear hJx4
            gi_wp2
            refine bodyPost_ret (results_none rfl _ _ _) rfl ?_
            exact ⟨⟨_, rfl⟩, .inr ⟨_, HL4.out, HJX.out⟩⟩
      · obtain rfl : i = cnt := by omega
        have b1 : decide ((i : Int) < (i : Int)) = false := decide_eq_false (by omega)
        have hL := HL.out
        rw [Nat.sub_self] at hL
        simp only [gos, List.append_nil] at hL
        have HL3 := Aside0.mk hL
        clear hL HL
        gi_wp2
        go_end0
        exact ⟨⟨_, rfl⟩, .inl ⟨pre, HL3.out.symm, HJS.out⟩⟩

end Go.Proofs.Ythkooncibfkepaa.G

/- Printed by the session's program over the kit's print, out of the translation: functions as plain Lean functions, and the proofs that the calls come to them. -/
namespace Go.Proofs.Ythkooncibfkepaa.G
open Go.RowKit Go.Proofs.YthkooncibfkepaaW.PrintWords Go.Proofs.YthkooncibfkepaaW.PrintLast Go.Proofs.YthkooncibfkepaaW.PrintMore
attribute [local go_sem] max2_int min2_int max_two min_two max_three min_three max_four min_four   -- for this text's walks alone
set_option linter.unusedVariables false
set_option linter.unusedSimpArgs false

/-! ### batch_fit: function 53 -/
def batch_fit.f (a0 : Int) (a1 : Int) : Option (Bool) := if a0 ≤ 72057594037927935 then (if a1 < 1 then (some true) else (some (decide ((IntKind.u64.wrap (wrap64 (a1 - 1))) ≤ (IntKind.u64.wrap (72057594037927935 - a0)))))) else (some false)
set_option maxHeartbeats 8000000 in
set_option maxRecDepth 100000 in
theorem batch_fit.calls (a0 : Int) (a1 : Int) (r : Bool) (w : World) (h : batch_fit.f a0 a1 = some r) :
    Calls Try.prog 53 #[.int .u64 a0, .int .i64 a1] w fun e w' => e = .returned (.bool r) ∧ Drawn0 w w' := by
  have H : (if a0 ≤ 72057594037927935 then (if a1 < 1 then (some true) else (some (decide ((IntKind.u64.wrap (wrap64 (a1 - 1))) ≤ (IntKind.u64.wrap (72057594037927935 - a0)))))) else (some false)) = some r := h
  clear h
  by_cases c3 : a0 ≤ 72057594037927935
  · rw [if_pos c3] at H
    have c3b0 : decide (a0 ≤ 72057594037927935) = true := decide_eq_true c3
    clear c3
    by_cases c4 : a1 < 1
    · rw [if_pos c4] at H
      have c4b0 : decide (a1 < 1) = true := decide_eq_true c4
      clear c4
      obtain rfl := Option.some.inj H
      go_enter Try.func53, Try.ntmps53
      go_wp2
      go_ret
      exact ⟨by first | rfl | (simp; done) | (simp [*]; done), by repeat (first | exact Drawn0.refl _ | apply Drawn0.step)⟩
    · rw [if_neg c4] at H
      have c4b0 : decide (a1 < 1) = false := decide_eq_false c4
      clear c4
      obtain rfl := Option.some.inj H
      go_enter Try.func53, Try.ntmps53
      go_wp2
      go_ret
      exact ⟨by first | rfl | (simp; done) | (simp [*]; done), by repeat (first | exact Drawn0.refl _ | apply Drawn0.step)⟩
  · rw [if_neg c3] at H
    have c3b0 : decide (a0 ≤ 72057594037927935) = false := decide_eq_false c3
    clear c3
    obtain rfl := Option.some.inj H
    go_enter Try.func53, Try.ntmps53
    go_wp2
    go_ret
    exact ⟨by first | rfl | (simp; done) | (simp [*]; done), by repeat (first | exact Drawn0.refl _ | apply Drawn0.step)⟩

/-- THE ONE PURE STATEMENT of batch_fit: yours. -/
def batch_fit.Pure : Prop := ∀ (a0 : Int) (a1 : Int), (Lit.int .u64 a0).wf = true → (Lit.int .i64 a1).wf = true → batch_fit.f a0 a1 = some true
theorem batch_fit.walk (P : batch_fit.Pure) (a0 : Int) (a1 : Int) (w : World) (w0 : (Lit.int .u64 a0).wf = true) (w1 : (Lit.int .i64 a1).wf = true) :
    Calls Try.prog 53 #[.int .u64 a0, .int .i64 a1] w fun e w' => e = .returned (.bool true) ∧ Below w.heap.size w w' := by
  have h := P a0 a1 w0 w1
  refine (batch_fit.calls a0 a1 true w h).mono ?_
  rintro e w' ⟨rfl, hd⟩
  exact ⟨rfl, hd.below⟩

end Go.Proofs.Ythkooncibfkepaa.G

/- Printed by the session's program over the kit's print, out of the translation: functions as plain Lean functions, and the proofs that the calls come to them. -/
namespace Go.Proofs.Ythkooncibfkepaa.G
open Go.RowKit Go.Proofs.YthkooncibfkepaaW.PrintWords Go.Proofs.YthkooncibfkepaaW.PrintLast Go.Proofs.YthkooncibfkepaaW.PrintMore
attribute [local go_sem] max2_int min2_int max_two min_two max_three min_three max_four min_four   -- for this text's walks alone
set_option linter.unusedVariables false
set_option linter.unusedSimpArgs false

/-! ### batch_Encode: function 21 -/
def batch_Encode.l0 : Nat → List Int → List (S65) → Int → Int → Option (List Int × Int)
  | 0, _, _, _, _ => none
  | k + 1, x8, x30, x31, x32 => if x32 < x31 then (if 0 ≤ x32 then (if x32 < (x30.length : Int) then (if x8.length < 140737488355328 then ((some (x8 ++ [((rd_T65 x30 x32).f0) % 256] : List Int)).bind fun y165 => ((codec_PutText.f k ([] : List Int) ((rd_T65 x30 x32).f1)).bind fun t168 => (if y165.length + t168.length < 140737488355328 then ((some (y165 ++ t168 : List Int)).bind fun y171 => (if ((rd_T65 x30 x32).f0) = 0 then (batch_Encode.l0 k y171 x30 x31 (wrap64 (x32 + 1))) else ((codec_PutText.f k ([] : List Int) ((rd_T65 x30 x32).f2)).bind fun t174 => (if y171.length + t174.length < 140737488355328 then (batch_Encode.l0 k (y171 ++ t174) x30 x31 (wrap64 (x32 + 1))) else (none))))) else (none)))) else (none)) else (none)) else (none)) else (some (x8, 0))
def batch_Encode.f (k : Nat) (a0 : Int) (l1 : List (S65)) : Option (List Int × Int) := (batch_Check.f k l1).bind fun bt154 => (if bt154.2 = 0 then ((batch_fit.f a0 (l1.length : Int)).bind fun t156 => (if t156 = true then ((codec_PutFixed64.f k ([] : List Int) a0).bind fun t157 => ((codec_PutFixed32.f k t157 (((l1.length : Int)) % 4294967296)).bind fun t160 => (batch_Encode.l0 k t160 l1 (l1.length : Int) 0))) else (some (([] : List Int), 42)))) else (some (([] : List Int), bt154.2)))
theorem batch_Encode.mono_l : ∀ k, (∀ y0 y1 y2 y3, LeO (batch_Encode.l0 k y0 y1 y2 y3) (batch_Encode.l0 (k + 1) y0 y1 y2 y3))
  | 0 => fun _ _ _ _ r h => by simp [batch_Encode.l0] at h
  | k + 1 => by
    have ih0 := batch_Encode.mono_l k
    · intro y0 y1 y2 y3
      unfold batch_Encode.l0
      repeat' first
      | (with_reducible exact ih0 _ _ _ _)
      | (with_reducible exact batch_Check.mono _ _)
      | (with_reducible exact codec_PutFixed32.mono _ _ _)
      | (with_reducible exact codec_PutFixed64.mono _ _ _)
      | (with_reducible exact codec_PutText.mono _ _ _)
      | (with_reducible exact LeO.refl _)
      | (with_reducible exact LeO.none _)
      | (with_reducible refine LeO.ite ?_ ?_)
      | (with_reducible refine LeO.bind ?_ (fun _ => ?_))
      | exact ih0 _ _ _ _
      | exact batch_Check.mono _ _
      | exact codec_PutFixed32.mono _ _ _
      | exact codec_PutFixed64.mono _ _ _
      | exact codec_PutText.mono _ _ _
      | exact LeO.none _
      | refine LeO.ite ?_ ?_
      | refine LeO.bind ?_ (fun _ => ?_)
theorem batch_Encode.mono : ∀ a0 a1 k, LeO (batch_Encode.f k a0 a1) (batch_Encode.f (k + 1) a0 a1) := by
  intro a0 a1 k
  have ih0 := batch_Encode.mono_l k
  unfold batch_Encode.f
  repeat' first
      | (with_reducible exact ih0 _ _ _ _)
      | (with_reducible exact batch_Check.mono _ _)
      | (with_reducible exact codec_PutFixed32.mono _ _ _)
      | (with_reducible exact codec_PutFixed64.mono _ _ _)
      | (with_reducible exact codec_PutText.mono _ _ _)
      | (with_reducible exact LeO.refl _)
      | (with_reducible exact LeO.none _)
      | (with_reducible refine LeO.ite ?_ ?_)
      | (with_reducible refine LeO.bind ?_ (fun _ => ?_))
      | exact ih0 _ _ _ _
      | exact batch_Check.mono _ _
      | exact codec_PutFixed32.mono _ _ _
      | exact codec_PutFixed64.mono _ _ _
      | exact codec_PutText.mono _ _ _
      | exact LeO.none _
      | refine LeO.ite ?_ ?_
      | refine LeO.bind ?_ (fun _ => ?_)
set_option maxHeartbeats 8000000 in
set_option maxRecDepth 100000 in
theorem batch_Encode.calls (k : Nat) (a0 : Int) (A1 : Option Addr) (c1 : Nat) (l1 : List (S65)) (r1 : List Int) (r2 : Int) (w : World) (hr1 : Kd.C k65 w A1 l1.length l1) (hc1 : l1.length ≤ c1) (h : batch_Encode.f k a0 l1 = some (r1, r2)) :
    Calls Try.prog 21 #[.int .u64 a0, .slice A1 l1.length c1] w fun e w' => ∃ v0_ : Value, e = .returned (.tuple #[v0_, .int .i64 r2]) ∧ Kd.R (Kd.int .u8) 5 w' w.heap.size (fun _ => True) v0_ r1 ∧ Below w.heap.size w w' := by
  have hu65 := Try.underlying65
  have HR1 := Aside0.mk hr1
  have HC1 := Aside0.mk hc1
  clear hr1 hc1
  have HB := Aside0.mk (Below.refl w.heap.size w)
  have H : ((batch_Check.f k l1).bind fun bt154 => (if bt154.2 = 0 then ((batch_fit.f a0 (l1.length : Int)).bind fun t156 => (if t156 = true then ((codec_PutFixed64.f k ([] : List Int) a0).bind fun t157 => ((codec_PutFixed32.f k t157 (((l1.length : Int)) % 4294967296)).bind fun t160 => (batch_Encode.l0 k t160 l1 (l1.length : Int) 0))) else (some (([] : List Int), 42)))) else (some (([] : List Int), bt154.2)))) = some (r1, r2) := h
  clear h
  replace H := Option.bind_eq_some_iff.mp H
  obtain ⟨⟨t154, t155⟩, A30, H⟩ := H
  replace H : (if t155 = 0 then ((batch_fit.f a0 (l1.length : Int)).bind fun t156 => (if t156 = true then ((codec_PutFixed64.f k ([] : List Int) a0).bind fun t157 => ((codec_PutFixed32.f k t157 (((l1.length : Int)) % 4294967296)).bind fun t160 => (batch_Encode.l0 k t160 l1 (l1.length : Int) 0))) else (some (([] : List Int), 42)))) else (some (([] : List Int), t155))) = some (r1, r2) := H
  have A3 := Aside0.mk A30
  clear A30
  by_cases c4 : t155 = 0
  · rw [if_pos c4] at H
    have c4b0 : (t155 == 0) = true := beq_iff_eq.mpr c4
    have c4b1 : (t155 != 0) = false := bne_eq_false_iff_eq.mpr c4
    clear c4
    replace H := Option.bind_eq_some_iff.mp H
    obtain ⟨t156, A50, H⟩ := H
    replace H : (if t156 = true then ((codec_PutFixed64.f k ([] : List Int) a0).bind fun t157 => ((codec_PutFixed32.f k t157 (((l1.length : Int)) % 4294967296)).bind fun t160 => (batch_Encode.l0 k t160 l1 (l1.length : Int) 0))) else (some (([] : List Int), 42))) = some (r1, r2) := H
    have A5 := Aside0.mk A50
    clear A50
    by_cases c6 : t156 = true
    · subst c6
      have H1 : ((codec_PutFixed64.f k ([] : List Int) a0).bind fun t157 => ((codec_PutFixed32.f k t157 (((l1.length : Int)) % 4294967296)).bind fun t160 => (batch_Encode.l0 k t160 l1 (l1.length : Int) 0))) = some (r1, r2) := by rw [if_pos rfl] at H; exact H
      clear H
      have H := H1
      clear H1
      replace H := Option.bind_eq_some_iff.mp H
      obtain ⟨t157, A70, H⟩ := H
      replace H : ((codec_PutFixed32.f k t157 (((l1.length : Int)) % 4294967296)).bind fun t160 => (batch_Encode.l0 k t160 l1 (l1.length : Int) 0)) = some (r1, r2) := H
      have A7 := Aside0.mk A70
      clear A70
      replace H := Option.bind_eq_some_iff.mp H
      obtain ⟨t160, A80, H⟩ := H
      replace H : (batch_Encode.l0 k t160 l1 (l1.length : Int) 0) = some (r1, r2) := H
      have A8 := Aside0.mk A80
      clear A80
      have H' := Aside0.mk H
      clear H
      go_enter Try.func21, Try.ntmps21
      go_wp2_with (first | ((with_reducible refine gate_callee (f := 16) rfl ?_); refine goesL_ (some 13) rfl rfl Try.func16 (by kernel_rfl) rfl #[.slice A1 l1.length c1] rfl (by (try simp only [List.map_toArray, List.map_cons, List.map_nil]); first | done | rfl | (simp only [List.length_drop, List.length_take]; rfl)) ?_; (with_reducible refine (batch_Check.calls k _ _ l1 t154 t155 _ ?side1 ?side2 A3.out).mono ?_); (case side1 => repeat (first | exact HR1.out | (with_reducible refine Kd.C_alloc ?_ _) | (with_reducible refine Kd.C_drewN ?_ _) | (with_reducible refine Kd.C_drew ?_))); (case side2 => exact HC1.out); rintro e w9 ⟨rfl, hb⟩; refine ⟨_, rfl, ?_⟩; have n0_ := Aside0.mk (below_step (by repeat (first | (with_reducible first | exact HB.out | apply below_alloc | apply pw_below_drewN | apply below_drew1) | exact HB.out)) hb); clear HB; have HB := n0_; clear n0_; (try clear hb); (try clear hb2); (try clear hk); (try clear hi)) | ((with_reducible refine gate_callee (f := 53) rfl ?_); refine goesL_ (some 22) rfl rfl Try.func53 (by kernel_rfl) rfl #[.int .u64 a0, .int .i64 (l1.length : Int)] rfl (by (try simp only [List.map_toArray, List.map_cons, List.map_nil]); first | done | rfl | (simp only [List.length_drop, List.length_take]; rfl)) ?_; (with_reducible refine (batch_fit.calls a0 (l1.length : Int) true _ A5.out).mono ?_); rintro e w' ⟨rfl, ⟨nd, rfl⟩⟩; refine ⟨_, rfl, ?_⟩) | ((with_reducible refine gate_callee (f := 55) rfl ?_); refine goesL_ (some 25) rfl rfl Try.func55 (by kernel_rfl) rfl #[.slice none 0 0, .int .u64 a0] rfl (by (try simp only [List.map_toArray, List.map_cons, List.map_nil]); first | done | rfl | (simp only [List.length_drop, List.length_take]; rfl)) ?_; (refine (codec_PutFixed64.calls k _ _ ([] : List Int) a0 t157 _ ?side1 ?side2 A7.out).mono ?_); (case side1 => exact Kd.C_nil _ _); (case side2 => exact Nat.le_refl _); rintro e w10 ⟨v158, rfl, ho0, hb⟩; refine ⟨_, rfl, ?_⟩; have n0_ := Aside0.mk (Kd.R_lower ho0 (below_size (by repeat (first | (with_reducible first | exact HB.out | apply below_alloc | apply pw_below_drewN | apply below_drew1) | exact HB.out)))); have n1_ := Aside0.mk (below_step (by repeat (first | (with_reducible first | exact HB.out | apply below_alloc | apply pw_below_drewN | apply below_drew1) | exact HB.out)) hb); clear HB; have HO159 := n0_; have HB := n1_; clear n0_ n1_; (try clear hb); (try clear hb2); (try clear hk); (try clear hi); (try clear ho0); obtain ⟨Ao11, co11, eo11⟩ := Kd.R_slice HO159.out; subst eo11) | ((with_reducible refine gate_callee (f := 54) rfl ?_); refine goesL_ (some 29) rfl rfl Try.func54 (by kernel_rfl) rfl #[.slice Ao11 t157.length co11, .int .u32 (((l1.length : Int)) % 4294967296)] rfl (by (try simp only [List.map_toArray, List.map_cons, List.map_nil]); first | done | rfl | (simp only [List.length_drop, List.length_take]; rfl)) ?_; (with_reducible refine (codec_PutFixed32.calls k _ _ t157 (((l1.length : Int)) % 4294967296) t160 _ ?side1 ?side2 A8.out).mono ?_); (case side1 => repeat (first | exact (Kd.R_reads' HO159.out).2.2 | (with_reducible refine Kd.C_alloc ?_ _) | (with_reducible refine Kd.C_drewN ?_ _) | (with_reducible refine Kd.C_drew ?_))); (case side2 => exact (Kd.R_reads' HO159.out).2.1); rintro e w12 ⟨v161, rfl, ho0, hb⟩; refine ⟨_, rfl, ?_⟩; have n0_ := Aside0.mk (Kd.R_elder' (by (with_reducible repeat (first | apply Kd.R_alloc | apply Kd.R_drewN | apply Kd.R_drew)); exact HO159.out) (Kd.R_base ho0) hb); have n1_ := Aside0.mk (Kd.R_lower (Kd.R_new' ho0 (Kd.R_lt (by (with_reducible repeat (first | apply Kd.R_alloc | apply Kd.R_drewN | apply Kd.R_drew)); exact HO159.out))) (below_size (by repeat (first | (with_reducible first | exact HB.out | apply below_alloc | apply pw_below_drewN | apply below_drew1) | exact HB.out)))); have n2_ := Aside0.mk (below_step (by repeat (first | (with_reducible first | exact HB.out | apply below_alloc | apply pw_below_drewN | apply below_drew1) | exact HB.out)) hb); clear HO159; clear HB; have HO159 := n0_; have HO162 := n1_; have HB := n2_; clear n0_ n1_ n2_; (try clear hb); (try clear hb2); (try clear hk); (try clear hi); (try clear ho0)))
      go_loopg [8, 32] k (fun kq v8 v32 w' => ∃ (x8_1 : List Int) (x32_1 : Int), v32 = .int .i64 x32_1 ∧ Aside0 (batch_Encode.l0 kq x8_1 l1 (l1.length : Int) x32_1 = some (r1, r2)) ∧ Aside0 (kq ≤ k) ∧ Aside0 (Kd.R (Kd.int .u8) 5 w' w.heap.size (fun _ => True) v8 x8_1) ∧ Aside0 (Below w.heap.size w w'))
      case atStart => exact ⟨(t160), (0), (by first | rfl | (simp; done) | (simp [*]; done)), H', ⟨Nat.le_refl _⟩, ⟨by (with_reducible repeat (first | apply Kd.R_alloc | apply Kd.R_drewN | apply Kd.R_drew)); exact Kd.R_mono HO162.out (fun _ hk => trivial)⟩, ⟨by repeat (first | (with_reducible first | exact HB.out | apply below_alloc | apply pw_below_drewN | apply below_drew1) | exact HB.out)⟩⟩
      case round =>
        clear H'
        try clear c1
        try clear c2
        try clear p2
        try clear c4
        try clear c4b0
        try clear c4b1
        try clear c5
        try clear c6
        obtain ⟨x8_1, x32_1, rfl, HA, HK1, HO_8, HB⟩ := hrel
        cases gk with
        | zero => exact absurd HA.out (by simp [batch_Encode.l0])
        | succ k1 =>
          have H := HA.out
          clear HA
          simp only [batch_Encode.l0] at H
          by_cases c13 : x32_1 < (l1.length : Int)
          · rw [if_pos c13] at H
            have c13b0 : decide (x32_1 < (l1.length : Int)) = true := decide_eq_true c13
            clear c13
            by_cases c14 : 0 ≤ x32_1
            · rw [if_pos c14] at H
              have c14b0 : decide (0 ≤ x32_1) = true := decide_eq_true c14
              clear c14
              by_cases c15 : x32_1 < (l1.length : Int)
              · rw [if_pos c15] at H
                have c15b0 : decide (x32_1 < (l1.length : Int)) = true := decide_eq_true c15
                clear c15
                by_cases c16 : x8_1.length < 140737488355328
                · rw [if_pos c16] at H
                  have LMc16 := Aside0.mk c16
                  clear c16
                  obtain ⟨y165, hy165⟩ : ∃ y_ : List Int, y_ = (x8_1 ++ [((rd_T65 l1 x32_1).f0) % 256]) := ⟨_, rfl⟩
                  replace H : ((codec_PutText.f k1 ([] : List Int) ((rd_T65 l1 x32_1).f1)).bind fun t168 => (if y165.length + t168.length < 140737488355328 then ((some (y165 ++ t168 : List Int)).bind fun y171 => (if ((rd_T65 l1 x32_1).f0) = 0 then (batch_Encode.l0 k1 y171 l1 (l1.length : Int) (wrap64 (x32_1 + 1))) else ((codec_PutText.f k1 ([] : List Int) ((rd_T65 l1 x32_1).f2)).bind fun t174 => (if y171.length + t174.length < 140737488355328 then (batch_Encode.l0 k1 (y171 ++ t174) l1 (l1.length : Int) (wrap64 (x32_1 + 1))) else (none))))) else (none))) = some (r1, r2) := by first | (rw [hy165]; with_reducible exact H) | (have H2_ := (Option.bind_some _ _).symm.trans H; rw [hy165]; with_reducible exact H2_) | (have H2_ := (Option.bind_some _ _).symm.trans H; with_reducible exact H2_) | with_reducible exact H | (rw [hy165]; exact H) | exact H
                  have Ny165 := Aside0.mk hy165
                  clear hy165
                  replace H := Option.bind_eq_some_iff.mp H
                  obtain ⟨t168, A170, H⟩ := H
                  replace H : (if y165.length + t168.length < 140737488355328 then ((some (y165 ++ t168 : List Int)).bind fun y171 => (if ((rd_T65 l1 x32_1).f0) = 0 then (batch_Encode.l0 k1 y171 l1 (l1.length : Int) (wrap64 (x32_1 + 1))) else ((codec_PutText.f k1 ([] : List Int) ((rd_T65 l1 x32_1).f2)).bind fun t174 => (if y171.length + t174.length < 140737488355328 then (batch_Encode.l0 k1 (y171 ++ t174) l1 (l1.length : Int) (wrap64 (x32_1 + 1))) else (none))))) else (none)) = some (r1, r2) := H
                  have A17 := Aside0.mk A170
                  clear A170
                  by_cases c18 : y165.length + t168.length < 140737488355328
                  · rw [if_pos c18] at H
                    have LMc18 := Aside0.mk c18
                    clear c18
                    obtain ⟨y171, hy171⟩ : ∃ y_ : List Int, y_ = (y165 ++ t168) := ⟨_, rfl⟩
                    replace H : (if ((rd_T65 l1 x32_1).f0) = 0 then (batch_Encode.l0 k1 y171 l1 (l1.length : Int) (wrap64 (x32_1 + 1))) else ((codec_PutText.f k1 ([] : List Int) ((rd_T65 l1 x32_1).f2)).bind fun t174 => (if y171.length + t174.length < 140737488355328 then (batch_Encode.l0 k1 (y171 ++ t174) l1 (l1.length : Int) (wrap64 (x32_1 + 1))) else (none)))) = some (r1, r2) := by first | (rw [hy171]; with_reducible exact H) | (have H2_ := (Option.bind_some _ _).symm.trans H; rw [hy171]; with_reducible exact H2_) | (have H2_ := (Option.bind_some _ _).symm.trans H; with_reducible exact H2_) | with_reducible exact H | (rw [hy171]; exact H) | exact H
                    have Ny171 := Aside0.mk hy171
                    clear hy171
                    by_cases c19 : ((rd_T65 l1 x32_1).f0) = 0
                    · rw [if_pos c19] at H
                      have c19b0 : (((rd_T65 l1 x32_1).f0) == 0) = true := beq_iff_eq.mpr c19
                      have c19b1 : (((rd_T65 l1 x32_1).f0) != 0) = false := bne_eq_false_iff_eq.mpr c19
                      clear c19
                      have H' := Aside0.mk H
                      clear H
                      have p163 : 0 ≤ (x32_1 : Int) := of_decide_eq_true (by first | (with_reducible assumption) | assumption)
                      have q163 : x32_1 < (l1.length : Int) := of_decide_eq_true (by first | (with_reducible assumption) | assumption)
                      obtain ⟨ad163, e163, hx163_0, hx163_1, hx163_2⟩ := at_T65 HR1.out x32_1 p163 q163
                      cases e163
                      replace hx163_0 := (HB.out.cell (World.block_lt_of_cell? w _ hx163_0)).trans hx163_0
                      replace hx163_1 := (HB.out.cell (World.block_lt_of_cell? w _ hx163_1)).trans hx163_1
                      replace hx163_2 := (HB.out.cell (World.block_lt_of_cell? w _ hx163_2)).trans hx163_2
                      replace p163 := eq_true p163
                      replace q163 := eq_true q163
                      go_wp2_with (first | ((with_reducible refine gate_dst (N := 10) rfl ?_); refine box_event ?hg (N := 10) ?hd (cs := #[.int .i64 0, .string (⟨#[]⟩ : ByteArray), .string (⟨#[]⟩ : ByteArray)]) (t := 65) ?hr ?_; (case hd => rfl); (case hg => rfl); (case hr => first | (go_simp; done) | (go_simp; rfl)); intro gb164 hg w20 hbox hb; have n0_ := Aside0.mk (Kd.R_below (by (with_reducible repeat (first | apply Kd.R_alloc | apply Kd.R_drewN | apply Kd.R_drew)); exact HO_8.out) hb); have n1_ := Aside0.mk (below_step (by repeat (first | (with_reducible first | exact HB.out | apply below_alloc | apply pw_below_drewN | apply below_drew1) | exact HB.out)) hb); have n2_ := Aside0.mk (hbox); have n3_ := Aside0.mk ((by rw [hg]; exact (below_size (by repeat (first | (with_reducible first | exact HB.out | apply below_alloc | apply pw_below_drewN | apply below_drew1) | exact HB.out))) : w.heap.size ≤ gb164)); have n4_ := Aside0.mk ((by rw [hg]; exact (below_size (by repeat (first | (with_reducible first | exact HB.out | apply below_alloc | apply pw_below_drewN | apply below_drew1) | exact HB.out))) : w.heap.size ≤ gb164)); clear HO_8; clear HB; have HO_8 := n0_; have HB := n1_; have BK164 := n2_; have GW164 := n3_; have GE164 := n4_; clear n0_ n1_ n2_ n3_ n4_; clear hb hbox hg; have hcz21_0 : w20.cell? ⟨gb164, 0, none⟩ = some (.int .i64 0) := (blk_cell BK164.out 0).trans rfl; have hcz21_1 : w20.cell? ⟨gb164, 1, none⟩ = some (.string (⟨#[]⟩ : ByteArray)) := (blk_cell BK164.out 1).trans rfl; have hcz21_2 : w20.cell? ⟨gb164, 2, none⟩ = some (.string (⟨#[]⟩ : ByteArray)) := (blk_cell BK164.out 2).trans rfl; have hfz21_0 := blk_frozen BK164.out 0; have hfz21_1 := blk_frozen BK164.out 1; have hfz21_2 := blk_frozen BK164.out 2) | ((with_reducible refine gate_builtin (b := .append) (xs := #[.tmp 36, .tmp 40]) rfl ?_); at_builtin; refine Kd.R_append (Kd.int .u8) (w0 := w) w.heap.size rfl (.tmp 36) (.tmp 40) 33 5 (.int .u8 0) 1 rfl Try.underlying33 info5 rfl (by decide) (by omega) u8 x8_1 (((rd_T65 l1 x32_1).f0) % 256) [.int .u8 (((rd_T65 l1 x32_1).f0) % 256)] (fun _ => True) (fun _ => False) rfl (by first | (go_simp; done) | (go_simp; rfl)) ?aP (fun _ hk => hk.elim) ?aF ?aO ?aB ?aS ?aL ?_; (case aP => exact rfl); (case aB => exact (by repeat (first | (with_reducible first | exact HB.out | apply below_alloc | apply pw_below_drewN | apply below_drew1 | refine below_set ?_ GE164.out) | exact HB.out))); (case aF => exact (fun _ _ => trivial)); (case aO => exact (by (with_reducible repeat (first | apply Kd.R_alloc | apply Kd.R_drewN | apply Kd.R_drew)); exact Kd.R_mono (Kd.R_far (p := ⟨gb164, 2, none⟩) (Kd.R_far (p := ⟨gb164, 1, none⟩) (Kd.R_far (p := ⟨gb164, 0, none⟩) (Kd.R_types HO_8.out BK164.out (by decide)) (fun _ hk => hk.2) (.int .i64 ((rd_T65 l1 x32_1).f0))) (fun _ hk => hk.2) (.string ((rd_T65 l1 x32_1).f1))) (fun _ hk => hk.2) (.string ((rd_T65 l1 x32_1).f2))) (fun _ hk => trivial))); (case aS => exact (below_size (by repeat (first | (with_reducible first | exact HB.out | apply below_alloc | apply pw_below_drewN | apply below_drew1 | refine below_set ?_ GE164.out) | exact HB.out)))); (case aL => have := LMc16.out; omega); intro v166 w22 ho hb hg hat; rw [← Ny165.out] at ho; have n0_ := Aside0.mk (blk_grown (g := gb164) (o := .cells #[.int .i64 ((rd_T65 l1 x32_1).f0), .string ((rd_T65 l1 x32_1).f1), .string ((rd_T65 l1 x32_1).f2)] 65 (0, 0)) (by (with_reducible repeat (first | refine blk_drewN ?_ _ | refine blk_drew ?_ | refine blk_alloc ?_ _)); refine blk_put (cs := #[.int .i64 ((rd_T65 l1 x32_1).f0), .string ((rd_T65 l1 x32_1).f1), .string (⟨#[]⟩ : ByteArray)]) ?_ 2 _ rfl; (with_reducible repeat (first | refine blk_drewN ?_ _ | refine blk_drew ?_ | refine blk_alloc ?_ _)); refine blk_put (cs := #[.int .i64 ((rd_T65 l1 x32_1).f0), .string (⟨#[]⟩ : ByteArray), .string (⟨#[]⟩ : ByteArray)]) ?_ 1 _ rfl; (with_reducible repeat (first | refine blk_drewN ?_ _ | refine blk_drew ?_ | refine blk_alloc ?_ _)); refine blk_put (cs := #[.int .i64 0, .string (⟨#[]⟩ : ByteArray), .string (⟨#[]⟩ : ByteArray)]) ?_ 0 _ rfl; (with_reducible repeat (first | refine blk_drewN ?_ _ | refine blk_drew ?_ | refine blk_alloc ?_ _)); exact BK164.out) hg (Kd.R_ne HO_8.out BK164.out (by decide))); have n1_ := Aside0.mk (hb); have n2_ := Aside0.mk (ho); clear BK164; clear HB; clear HO_8; have BK164 := n0_; have HB := n1_; have HO167 := n2_; clear n0_ n1_ n2_; clear ho hb hg hat; have hcz23_0 : w22.cell? ⟨gb164, 0, none⟩ = some (.int .i64 ((rd_T65 l1 x32_1).f0)) := (blk_cell BK164.out 0).trans rfl; have hcz23_1 : w22.cell? ⟨gb164, 1, none⟩ = some (.string ((rd_T65 l1 x32_1).f1)) := (blk_cell BK164.out 1).trans rfl; have hcz23_2 : w22.cell? ⟨gb164, 2, none⟩ = some (.string ((rd_T65 l1 x32_1).f2)) := (blk_cell BK164.out 2).trans rfl; have hfz23_0 := blk_frozen BK164.out 0; have hfz23_1 := blk_frozen BK164.out 1; have hfz23_2 := blk_frozen BK164.out 2) | ((with_reducible refine gate_callee (f := 56) rfl ?_); refine goesL_ (some 45) rfl rfl Try.func56 (by kernel_rfl) rfl #[.slice none 0 0, .string ((rd_T65 l1 x32_1).f1)] rfl (by (try simp only [List.map_toArray, List.map_cons, List.map_nil]); first | done | rfl | (simp only [List.length_drop, List.length_take]; rfl)) ?_; (refine (codec_PutText.calls k1 _ _ ([] : List Int) ((rd_T65 l1 x32_1).f1) t168 _ ?side1 ?side2 A17.out).mono ?_); (case side1 => exact Kd.C_nil _ _); (case side2 => exact Nat.le_refl _); rintro e w24 ⟨v169, rfl, ho0, hb⟩; refine ⟨_, rfl, ?_⟩; have n0_ := Aside0.mk (Kd.R_elder' (by (with_reducible repeat (first | apply Kd.R_alloc | apply Kd.R_drewN | apply Kd.R_drew)); exact HO167.out) (Kd.R_base ho0) hb); have n1_ := Aside0.mk (Kd.R_lower (Kd.R_new' ho0 (Kd.R_lt (by (with_reducible repeat (first | apply Kd.R_alloc | apply Kd.R_drewN | apply Kd.R_drew)); exact HO167.out))) (below_size (by repeat (first | (with_reducible first | exact HB.out | apply below_alloc | apply pw_below_drewN | apply below_drew1 | refine below_set ?_ GE164.out) | exact HB.out)))); have n2_ := Aside0.mk (blk_below (g := gb164) (o := .cells #[.int .i64 ((rd_T65 l1 x32_1).f0), .string ((rd_T65 l1 x32_1).f1), .string ((rd_T65 l1 x32_1).f2)] 65 (0, 0)) (by (with_reducible repeat (first | refine blk_drewN ?_ _ | refine blk_drew ?_ | refine blk_alloc ?_ _)); exact BK164.out) hb); have n3_ := Aside0.mk (below_step (by repeat (first | (with_reducible first | exact HB.out | apply below_alloc | apply pw_below_drewN | apply below_drew1 | refine below_set ?_ GE164.out) | exact HB.out)) hb); clear HO167; clear BK164; clear HB; have HO167 := n0_; have HO170 := n1_; have BK164 := n2_; have HB := n3_; clear n0_ n1_ n2_ n3_; (try clear hb); (try clear hb2); (try clear hk); (try clear hi); (try clear ho0); obtain ⟨Ao26, co26, eo26⟩ := Kd.R_slice HO170.out; subst eo26) | ((with_reducible refine gate_builtin (b := .append) (xs := #[.tmp 42, .tmp 45]) rfl ?_); at_builtin; refine Kd.R_append_rows (Kd.int .u8) (w0 := w) w.heap.size rfl (.tmp 42) (.tmp 45) 33 5 (.int .u8 0) 1 rfl Try.underlying33 info5 rfl (by decide) (by omega) v166 y165 t168 _ _ _ (fun k_ => some k_ ≠ (.slice Ao26 t168.length co26 : Value).ownBlock) (fun _ => False) rfl rfl ?aO ?aR (fun _ _ h => h) (fun _ h => h.elim) ?aF ?aB ?aS ?aL ?_; (case aR => repeat (first | exact (Kd.R_reads' HO170.out).2.2 | (with_reducible refine Kd.C_alloc ?_ _) | (with_reducible refine Kd.C_drewN ?_ _) | (with_reducible refine Kd.C_drew ?_))); (case aB => exact (by repeat (first | (with_reducible first | exact HB.out | apply below_alloc | apply pw_below_drewN | apply below_drew1 | refine below_set ?_ GE164.out) | exact HB.out))); (case aF => exact (fun k_ hk => Kd.fresh' (Kd.R_lt (by (with_reducible repeat (first | apply Kd.R_alloc | apply Kd.R_drewN | apply Kd.R_drew)); exact HO170.out)) k_ hk)); (case aO => exact (by (with_reducible repeat (first | apply Kd.R_alloc | apply Kd.R_drewN | apply Kd.R_drew)); exact Kd.R_mono HO167.out (fun _ hk => hk.2))); (case aS => exact (below_size (by repeat (first | (with_reducible first | exact HB.out | apply below_alloc | apply pw_below_drewN | apply below_drew1 | refine below_set ?_ GE164.out) | exact HB.out)))); (case aL => have := LMc18.out; omega); intro v172 w25 ho hb hg hat; rw [← Ny171.out] at ho; have n0_ := Aside0.mk (blk_grown (g := gb164) (o := .cells #[.int .i64 ((rd_T65 l1 x32_1).f0), .string ((rd_T65 l1 x32_1).f1), .string ((rd_T65 l1 x32_1).f2)] 65 (0, 0)) (by (with_reducible repeat (first | refine blk_drewN ?_ _ | refine blk_drew ?_ | refine blk_alloc ?_ _)); exact BK164.out) hg (Kd.R_ne HO167.out BK164.out (by decide))); have n1_ := Aside0.mk (Kd.R_after (ok := (fun _ => True)) (by (with_reducible repeat (first | apply Kd.R_alloc | apply Kd.R_drewN | apply Kd.R_drew)); exact HO170.out) hg hat); have n2_ := Aside0.mk (hb); have n3_ := Aside0.mk (ho); clear BK164; clear HO170; clear HB; clear HO167; have BK164 := n0_; have HO170 := n1_; have HB := n2_; have HO173 := n3_; clear n0_ n1_ n2_ n3_; clear ho hb hg hat; have hcz27_0 : w25.cell? ⟨gb164, 0, none⟩ = some (.int .i64 ((rd_T65 l1 x32_1).f0)) := (blk_cell BK164.out 0).trans rfl; have hcz27_1 : w25.cell? ⟨gb164, 1, none⟩ = some (.string ((rd_T65 l1 x32_1).f1)) := (blk_cell BK164.out 1).trans rfl; have hcz27_2 : w25.cell? ⟨gb164, 2, none⟩ = some (.string ((rd_T65 l1 x32_1).f2)) := (blk_cell BK164.out 2).trans rfl; have hfz27_0 := blk_frozen BK164.out 0; have hfz27_1 := blk_frozen BK164.out 1; have hfz27_2 := blk_frozen BK164.out 2))
                      go_roundg k1
                      case measure => have := HK1.out; omega
                      case rel => exact ⟨(y171), (wrap64 (x32_1 + 1)), (by first | rfl | (simp; done) | (simp [*]; done)), H', ⟨by have := HK1.out; omega⟩, ⟨by (with_reducible repeat (first | apply Kd.R_alloc | apply Kd.R_drewN | apply Kd.R_drew)); exact Kd.R_mono HO173.out (fun _ hk => trivial)⟩, ⟨by repeat (first | (with_reducible first | exact HB.out | apply below_alloc | apply pw_below_drewN | apply below_drew1 | refine below_set ?_ GE164.out) | exact HB.out)⟩⟩
                    · rw [if_neg c19] at H
                      have c19b0 : (((rd_T65 l1 x32_1).f0) == 0) = false := beq_eq_false_iff_ne.mpr c19
                      have c19b1 : (((rd_T65 l1 x32_1).f0) != 0) = true := bne_iff_ne.mpr c19
                      replace H := Option.bind_eq_some_iff.mp H
                      obtain ⟨t174, A280, H⟩ := H
                      replace H : (if y171.length + t174.length < 140737488355328 then (batch_Encode.l0 k1 (y171 ++ t174) l1 (l1.length : Int) (wrap64 (x32_1 + 1))) else (none)) = some (r1, r2) := H
                      have A28 := Aside0.mk A280
                      clear A280
                      by_cases c29 : y171.length + t174.length < 140737488355328
                      · rw [if_pos c29] at H
                        have LMc29 := Aside0.mk c29
                        clear c29
                        obtain ⟨y177, hy177⟩ : ∃ y_ : List Int, y_ = (y171 ++ t174) := ⟨_, rfl⟩
                        replace H : (batch_Encode.l0 k1 y177 l1 (l1.length : Int) (wrap64 (x32_1 + 1))) = some (r1, r2) := by first | (rw [hy177]; with_reducible exact H) | (have H2_ := (Option.bind_some _ _).symm.trans H; rw [hy177]; with_reducible exact H2_) | (have H2_ := (Option.bind_some _ _).symm.trans H; with_reducible exact H2_) | with_reducible exact H | (rw [hy177]; exact H) | exact H
                        have Ny177 := Aside0.mk hy177
                        clear hy177
                        have H' := Aside0.mk H
                        clear H
                        have p163 : 0 ≤ (x32_1 : Int) := of_decide_eq_true (by first | (with_reducible assumption) | assumption)
                        have q163 : x32_1 < (l1.length : Int) := of_decide_eq_true (by first | (with_reducible assumption) | assumption)
                        obtain ⟨ad163, e163, hx163_0, hx163_1, hx163_2⟩ := at_T65 HR1.out x32_1 p163 q163
                        cases e163
                        replace hx163_0 := (HB.out.cell (World.block_lt_of_cell? w _ hx163_0)).trans hx163_0
                        replace hx163_1 := (HB.out.cell (World.block_lt_of_cell? w _ hx163_1)).trans hx163_1
                        replace hx163_2 := (HB.out.cell (World.block_lt_of_cell? w _ hx163_2)).trans hx163_2
                        replace p163 := eq_true p163
                        replace q163 := eq_true q163
                        go_wp2_with (first | ((with_reducible refine gate_dst (N := 10) rfl ?_); refine box_event ?hg (N := 10) ?hd (cs := #[.int .i64 0, .string (⟨#[]⟩ : ByteArray), .string (⟨#[]⟩ : ByteArray)]) (t := 65) ?hr ?_; (case hd => rfl); (case hg => rfl); (case hr => first | (go_simp; done) | (go_simp; rfl)); intro gb164 hg w30 hbox hb; have n0_ := Aside0.mk (Kd.R_below (by (with_reducible repeat (first | apply Kd.R_alloc | apply Kd.R_drewN | apply Kd.R_drew)); exact HO_8.out) hb); have n1_ := Aside0.mk (below_step (by repeat (first | (with_reducible first | exact HB.out | apply below_alloc | apply pw_below_drewN | apply below_drew1) | exact HB.out)) hb); have n2_ := Aside0.mk (hbox); have n3_ := Aside0.mk ((by rw [hg]; exact (below_size (by repeat (first | (with_reducible first | exact HB.out | apply below_alloc | apply pw_below_drewN | apply below_drew1) | exact HB.out))) : w.heap.size ≤ gb164)); have n4_ := Aside0.mk ((by rw [hg]; exact (below_size (by repeat (first | (with_reducible first | exact HB.out | apply below_alloc | apply pw_below_drewN | apply below_drew1) | exact HB.out))) : w.heap.size ≤ gb164)); clear HO_8; clear HB; have HO_8 := n0_; have HB := n1_; have BK164 := n2_; have GW164 := n3_; have GE164 := n4_; clear n0_ n1_ n2_ n3_ n4_; clear hb hbox hg; have hcz31_0 : w30.cell? ⟨gb164, 0, none⟩ = some (.int .i64 0) := (blk_cell BK164.out 0).trans rfl; have hcz31_1 : w30.cell? ⟨gb164, 1, none⟩ = some (.string (⟨#[]⟩ : ByteArray)) := (blk_cell BK164.out 1).trans rfl; have hcz31_2 : w30.cell? ⟨gb164, 2, none⟩ = some (.string (⟨#[]⟩ : ByteArray)) := (blk_cell BK164.out 2).trans rfl; have hfz31_0 := blk_frozen BK164.out 0; have hfz31_1 := blk_frozen BK164.out 1; have hfz31_2 := blk_frozen BK164.out 2) | ((with_reducible refine gate_builtin (b := .append) (xs := #[.tmp 36, .tmp 40]) rfl ?_); at_builtin; refine Kd.R_append (Kd.int .u8) (w0 := w) w.heap.size rfl (.tmp 36) (.tmp 40) 33 5 (.int .u8 0) 1 rfl Try.underlying33 info5 rfl (by decide) (by omega) u8 x8_1 (((rd_T65 l1 x32_1).f0) % 256) [.int .u8 (((rd_T65 l1 x32_1).f0) % 256)] (fun _ => True) (fun _ => False) rfl (by first | (go_simp; done) | (go_simp; rfl)) ?aP (fun _ hk => hk.elim) ?aF ?aO ?aB ?aS ?aL ?_; (case aP => exact rfl); (case aB => exact (by repeat (first | (with_reducible first | exact HB.out | apply below_alloc | apply pw_below_drewN | apply below_drew1 | refine below_set ?_ GE164.out) | exact HB.out))); (case aF => exact (fun _ _ => trivial)); (case aO => exact (by (with_reducible repeat (first | apply Kd.R_alloc | apply Kd.R_drewN | apply Kd.R_drew)); exact Kd.R_mono (Kd.R_far (p := ⟨gb164, 2, none⟩) (Kd.R_far (p := ⟨gb164, 1, none⟩) (Kd.R_far (p := ⟨gb164, 0, none⟩) (Kd.R_types HO_8.out BK164.out (by decide)) (fun _ hk => hk.2) (.int .i64 ((rd_T65 l1 x32_1).f0))) (fun _ hk => hk.2) (.string ((rd_T65 l1 x32_1).f1))) (fun _ hk => hk.2) (.string ((rd_T65 l1 x32_1).f2))) (fun _ hk => trivial))); (case aS => exact (below_size (by repeat (first | (with_reducible first | exact HB.out | apply below_alloc | apply pw_below_drewN | apply below_drew1 | refine below_set ?_ GE164.out) | exact HB.out)))); (case aL => have := LMc16.out; omega); intro v166 w32 ho hb hg hat; rw [← Ny165.out] at ho; have n0_ := Aside0.mk (blk_grown (g := gb164) (o := .cells #[.int .i64 ((rd_T65 l1 x32_1).f0), .string ((rd_T65 l1 x32_1).f1), .string ((rd_T65 l1 x32_1).f2)] 65 (0, 0)) (by (with_reducible repeat (first | refine blk_drewN ?_ _ | refine blk_drew ?_ | refine blk_alloc ?_ _)); refine blk_put (cs := #[.int .i64 ((rd_T65 l1 x32_1).f0), .string ((rd_T65 l1 x32_1).f1), .string (⟨#[]⟩ : ByteArray)]) ?_ 2 _ rfl; (with_reducible repeat (first | refine blk_drewN ?_ _ | refine blk_drew ?_ | refine blk_alloc ?_ _)); refine blk_put (cs := #[.int .i64 ((rd_T65 l1 x32_1).f0), .string (⟨#[]⟩ : ByteArray), .string (⟨#[]⟩ : ByteArray)]) ?_ 1 _ rfl; (with_reducible repeat (first | refine blk_drewN ?_ _ | refine blk_drew ?_ | refine blk_alloc ?_ _)); refine blk_put (cs := #[.int .i64 0, .string (⟨#[]⟩ : ByteArray), .string (⟨#[]⟩ : ByteArray)]) ?_ 0 _ rfl; (with_reducible repeat (first | refine blk_drewN ?_ _ | refine blk_drew ?_ | refine blk_alloc ?_ _)); exact BK164.out) hg (Kd.R_ne HO_8.out BK164.out (by decide))); have n1_ := Aside0.mk (hb); have n2_ := Aside0.mk (ho); clear BK164; clear HB; clear HO_8; have BK164 := n0_; have HB := n1_; have HO167 := n2_; clear n0_ n1_ n2_; clear ho hb hg hat; have hcz33_0 : w32.cell? ⟨gb164, 0, none⟩ = some (.int .i64 ((rd_T65 l1 x32_1).f0)) := (blk_cell BK164.out 0).trans rfl; have hcz33_1 : w32.cell? ⟨gb164, 1, none⟩ = some (.string ((rd_T65 l1 x32_1).f1)) := (blk_cell BK164.out 1).trans rfl; have hcz33_2 : w32.cell? ⟨gb164, 2, none⟩ = some (.string ((rd_T65 l1 x32_1).f2)) := (blk_cell BK164.out 2).trans rfl; have hfz33_0 := blk_frozen BK164.out 0; have hfz33_1 := blk_frozen BK164.out 1; have hfz33_2 := blk_frozen BK164.out 2) | ((with_reducible refine gate_callee (f := 56) rfl ?_); refine goesL_ (some 45) rfl rfl Try.func56 (by kernel_rfl) rfl #[.slice none 0 0, .string ((rd_T65 l1 x32_1).f1)] rfl (by (try simp only [List.map_toArray, List.map_cons, List.map_nil]); first | done | rfl | (simp only [List.length_drop, List.length_take]; rfl)) ?_; (refine (codec_PutText.calls k1 _ _ ([] : List Int) ((rd_T65 l1 x32_1).f1) t168 _ ?side1 ?side2 A17.out).mono ?_); (case side1 => exact Kd.C_nil _ _); (case side2 => exact Nat.le_refl _); rintro e w34 ⟨v169, rfl, ho0, hb⟩; refine ⟨_, rfl, ?_⟩; have n0_ := Aside0.mk (Kd.R_elder' (by (with_reducible repeat (first | apply Kd.R_alloc | apply Kd.R_drewN | apply Kd.R_drew)); exact HO167.out) (Kd.R_base ho0) hb); have n1_ := Aside0.mk (Kd.R_lower (Kd.R_new' ho0 (Kd.R_lt (by (with_reducible repeat (first | apply Kd.R_alloc | apply Kd.R_drewN | apply Kd.R_drew)); exact HO167.out))) (below_size (by repeat (first | (with_reducible first | exact HB.out | apply below_alloc | apply pw_below_drewN | apply below_drew1 | refine below_set ?_ GE164.out) | exact HB.out)))); have n2_ := Aside0.mk (blk_below (g := gb164) (o := .cells #[.int .i64 ((rd_T65 l1 x32_1).f0), .string ((rd_T65 l1 x32_1).f1), .string ((rd_T65 l1 x32_1).f2)] 65 (0, 0)) (by (with_reducible repeat (first | refine blk_drewN ?_ _ | refine blk_drew ?_ | refine blk_alloc ?_ _)); exact BK164.out) hb); have n3_ := Aside0.mk (below_step (by repeat (first | (with_reducible first | exact HB.out | apply below_alloc | apply pw_below_drewN | apply below_drew1 | refine below_set ?_ GE164.out) | exact HB.out)) hb); clear HO167; clear BK164; clear HB; have HO167 := n0_; have HO170 := n1_; have BK164 := n2_; have HB := n3_; clear n0_ n1_ n2_ n3_; (try clear hb); (try clear hb2); (try clear hk); (try clear hi); (try clear ho0); obtain ⟨Ao36, co36, eo36⟩ := Kd.R_slice HO170.out; subst eo36) | ((with_reducible refine gate_builtin (b := .append) (xs := #[.tmp 42, .tmp 45]) rfl ?_); at_builtin; refine Kd.R_append_rows (Kd.int .u8) (w0 := w) w.heap.size rfl (.tmp 42) (.tmp 45) 33 5 (.int .u8 0) 1 rfl Try.underlying33 info5 rfl (by decide) (by omega) v166 y165 t168 _ _ _ (fun k_ => some k_ ≠ (.slice Ao36 t168.length co36 : Value).ownBlock) (fun _ => False) rfl rfl ?aO ?aR (fun _ _ h => h) (fun _ h => h.elim) ?aF ?aB ?aS ?aL ?_; (case aR => repeat (first | exact (Kd.R_reads' HO170.out).2.2 | (with_reducible refine Kd.C_alloc ?_ _) | (with_reducible refine Kd.C_drewN ?_ _) | (with_reducible refine Kd.C_drew ?_))); (case aB => exact (by repeat (first | (with_reducible first | exact HB.out | apply below_alloc | apply pw_below_drewN | apply below_drew1 | refine below_set ?_ GE164.out) | exact HB.out))); (case aF => exact (fun k_ hk => Kd.fresh' (Kd.R_lt (by (with_reducible repeat (first | apply Kd.R_alloc | apply Kd.R_drewN | apply Kd.R_drew)); exact HO170.out)) k_ hk)); (case aO => exact (by (with_reducible repeat (first | apply Kd.R_alloc | apply Kd.R_drewN | apply Kd.R_drew)); exact Kd.R_mono HO167.out (fun _ hk => hk.2))); (case aS => exact (below_size (by repeat (first | (with_reducible first | exact HB.out | apply below_alloc | apply pw_below_drewN | apply below_drew1 | refine below_set ?_ GE164.out) | exact HB.out)))); (case aL => have := LMc18.out; omega); intro v172 w35 ho hb hg hat; rw [← Ny171.out] at ho; have n0_ := Aside0.mk (blk_grown (g := gb164) (o := .cells #[.int .i64 ((rd_T65 l1 x32_1).f0), .string ((rd_T65 l1 x32_1).f1), .string ((rd_T65 l1 x32_1).f2)] 65 (0, 0)) (by (with_reducible repeat (first | refine blk_drewN ?_ _ | refine blk_drew ?_ | refine blk_alloc ?_ _)); exact BK164.out) hg (Kd.R_ne HO167.out BK164.out (by decide))); have n1_ := Aside0.mk (Kd.R_after (ok := (fun _ => True)) (by (with_reducible repeat (first | apply Kd.R_alloc | apply Kd.R_drewN | apply Kd.R_drew)); exact HO170.out) hg hat); have n2_ := Aside0.mk (hb); have n3_ := Aside0.mk (ho); clear BK164; clear HO170; clear HB; clear HO167; have BK164 := n0_; have HO170 := n1_; have HB := n2_; have HO173 := n3_; clear n0_ n1_ n2_ n3_; clear ho hb hg hat; have hcz37_0 : w35.cell? ⟨gb164, 0, none⟩ = some (.int .i64 ((rd_T65 l1 x32_1).f0)) := (blk_cell BK164.out 0).trans rfl; have hcz37_1 : w35.cell? ⟨gb164, 1, none⟩ = some (.string ((rd_T65 l1 x32_1).f1)) := (blk_cell BK164.out 1).trans rfl; have hcz37_2 : w35.cell? ⟨gb164, 2, none⟩ = some (.string ((rd_T65 l1 x32_1).f2)) := (blk_cell BK164.out 2).trans rfl; have hfz37_0 := blk_frozen BK164.out 0; have hfz37_1 := blk_frozen BK164.out 1; have hfz37_2 := blk_frozen BK164.out 2) | ((with_reducible refine gate_callee (f := 56) rfl ?_); refine goesL_ (some 53) rfl rfl Try.func56 (by kernel_rfl) rfl #[.slice none 0 0, .string ((rd_T65 l1 x32_1).f2)] rfl (by (try simp only [List.map_toArray, List.map_cons, List.map_nil]); first | done | rfl | (simp only [List.length_drop, List.length_take]; rfl)) ?_; (refine (codec_PutText.calls k1 _ _ ([] : List Int) ((rd_T65 l1 x32_1).f2) t174 _ ?side1 ?side2 A28.out).mono ?_); (case side1 => exact Kd.C_nil _ _); (case side2 => exact Nat.le_refl _); rintro e w38 ⟨v175, rfl, ho0, hb⟩; refine ⟨_, rfl, ?_⟩; have n0_ := Aside0.mk (Kd.R_elder' (by (with_reducible repeat (first | apply Kd.R_alloc | apply Kd.R_drewN | apply Kd.R_drew)); exact HO170.out) (Kd.R_base ho0) hb); have n1_ := Aside0.mk (Kd.R_elder' (by (with_reducible repeat (first | apply Kd.R_alloc | apply Kd.R_drewN | apply Kd.R_drew)); exact HO173.out) (Kd.R_base ho0) hb); have n2_ := Aside0.mk (Kd.R_lower (Kd.R_new' (Kd.R_new' ho0 (Kd.R_lt (by (with_reducible repeat (first | apply Kd.R_alloc | apply Kd.R_drewN | apply Kd.R_drew)); exact HO170.out))) (Kd.R_lt (by (with_reducible repeat (first | apply Kd.R_alloc | apply Kd.R_drewN | apply Kd.R_drew)); exact HO173.out))) (below_size (by repeat (first | (with_reducible first | exact HB.out | apply below_alloc | apply pw_below_drewN | apply below_drew1 | refine below_set ?_ GE164.out) | exact HB.out)))); have n3_ := Aside0.mk (blk_below (g := gb164) (o := .cells #[.int .i64 ((rd_T65 l1 x32_1).f0), .string ((rd_T65 l1 x32_1).f1), .string ((rd_T65 l1 x32_1).f2)] 65 (0, 0)) (by (with_reducible repeat (first | refine blk_drewN ?_ _ | refine blk_drew ?_ | refine blk_alloc ?_ _)); exact BK164.out) hb); have n4_ := Aside0.mk (below_step (by repeat (first | (with_reducible first | exact HB.out | apply below_alloc | apply pw_below_drewN | apply below_drew1 | refine below_set ?_ GE164.out) | exact HB.out)) hb); clear HO170; clear HO173; clear BK164; clear HB; have HO170 := n0_; have HO173 := n1_; have HO176 := n2_; have BK164 := n3_; have HB := n4_; clear n0_ n1_ n2_ n3_ n4_; (try clear hb); (try clear hb2); (try clear hk); (try clear hi); (try clear ho0); obtain ⟨Ao40, co40, eo40⟩ := Kd.R_slice HO176.out; subst eo40) | ((with_reducible refine gate_builtin (b := .append) (xs := #[.tmp 50, .tmp 53]) rfl ?_); at_builtin; refine Kd.R_append_rows (Kd.int .u8) (w0 := w) w.heap.size rfl (.tmp 50) (.tmp 53) 33 5 (.int .u8 0) 1 rfl Try.underlying33 info5 rfl (by decide) (by omega) v172 y171 t174 _ _ _ (fun k_ => some k_ ≠ (.slice Ao36 t168.length co36 : Value).ownBlock ∧ some k_ ≠ (.slice Ao40 t174.length co40 : Value).ownBlock) (fun _ => False) rfl rfl ?aO ?aR (fun _ _ h => h) (fun _ h => h.elim) ?aF ?aB ?aS ?aL ?_; (case aR => repeat (first | exact (Kd.R_reads' HO176.out).2.2 | (with_reducible refine Kd.C_alloc ?_ _) | (with_reducible refine Kd.C_drewN ?_ _) | (with_reducible refine Kd.C_drew ?_))); (case aB => exact (by repeat (first | (with_reducible first | exact HB.out | apply below_alloc | apply pw_below_drewN | apply below_drew1 | refine below_set ?_ GE164.out) | exact HB.out))); (case aF => exact (fun k_ hk => ⟨Kd.fresh' (Kd.R_lt (by (with_reducible repeat (first | apply Kd.R_alloc | apply Kd.R_drewN | apply Kd.R_drew)); exact HO170.out)) k_ hk, Kd.fresh' (Kd.R_lt (by (with_reducible repeat (first | apply Kd.R_alloc | apply Kd.R_drewN | apply Kd.R_drew)); exact HO176.out)) k_ hk⟩)); (case aO => exact (by (with_reducible repeat (first | apply Kd.R_alloc | apply Kd.R_drewN | apply Kd.R_drew)); exact HO173.out)); (case aS => exact (below_size (by repeat (first | (with_reducible first | exact HB.out | apply below_alloc | apply pw_below_drewN | apply below_drew1 | refine below_set ?_ GE164.out) | exact HB.out)))); (case aL => have := LMc29.out; omega); intro v178 w39 ho hb hg hat; rw [← Ny177.out] at ho; have n0_ := Aside0.mk (blk_grown (g := gb164) (o := .cells #[.int .i64 ((rd_T65 l1 x32_1).f0), .string ((rd_T65 l1 x32_1).f1), .string ((rd_T65 l1 x32_1).f2)] 65 (0, 0)) (by (with_reducible repeat (first | refine blk_drewN ?_ _ | refine blk_drew ?_ | refine blk_alloc ?_ _)); exact BK164.out) hg (Kd.R_ne HO173.out BK164.out (by decide))); have n1_ := Aside0.mk (Kd.R_after (ok := (fun k_ => some k_ ≠ (.slice Ao40 t174.length co40 : Value).ownBlock)) (by (with_reducible repeat (first | apply Kd.R_alloc | apply Kd.R_drewN | apply Kd.R_drew)); exact Kd.R_mono HO170.out (fun _ hk => ⟨hk.2, hk.1.2⟩)) hg hat); have n2_ := Aside0.mk (Kd.R_after (ok := (fun k_ => some k_ ≠ (.slice Ao36 t168.length co36 : Value).ownBlock)) (by (with_reducible repeat (first | apply Kd.R_alloc | apply Kd.R_drewN | apply Kd.R_drew)); exact Kd.R_mono HO176.out (fun _ hk => ⟨hk.1.2, hk.2⟩)) hg hat); have n3_ := Aside0.mk (hb); have n4_ := Aside0.mk (ho); clear BK164; clear HO170; clear HO176; clear HB; clear HO173; have BK164 := n0_; have HO170 := n1_; have HO176 := n2_; have HB := n3_; have HO179 := n4_; clear n0_ n1_ n2_ n3_ n4_; clear ho hb hg hat))
                        go_roundg k1
                        case measure => have := HK1.out; omega
                        case rel => exact ⟨(y177), (wrap64 (x32_1 + 1)), (by first | rfl | (simp; done) | (simp [*]; done)), H', ⟨by have := HK1.out; omega⟩, ⟨by (with_reducible repeat (first | apply Kd.R_alloc | apply Kd.R_drewN | apply Kd.R_drew)); exact Kd.R_mono HO179.out (fun _ hk => trivial)⟩, ⟨by repeat (first | (with_reducible first | exact HB.out | apply below_alloc | apply pw_below_drewN | apply below_drew1 | refine below_set ?_ GE164.out) | exact HB.out)⟩⟩
                      · rw [if_neg c29] at H
                        exact absurd H (by simp)
                  · rw [if_neg c18] at H
                    exact absurd H (by simp)
                · rw [if_neg c16] at H
                  exact absurd H (by simp)
              · rw [if_neg c15] at H
                exact absurd H (by simp)
            · rw [if_neg c14] at H
              exact absurd H (by simp)
          · rw [if_neg c13] at H
            have c13b0 : decide (x32_1 < (l1.length : Int)) = false := decide_eq_false c13
            clear c13
            simp only [Option.some.injEq, Prod.mk.injEq] at H
            obtain ⟨rfl, rfl⟩ := H
            go_wp2
            go_ret2
            exact ⟨_, by first | rfl | (simp [errW_none, errW_some] <;> rfl) | (simp [*, errW_none, errW_some] <;> rfl), by (with_reducible repeat (first | apply Kd.R_alloc | apply Kd.R_drewN | apply Kd.R_drew)); exact HO_8.out, by repeat (first | (with_reducible first | exact HB.out | apply below_alloc | apply pw_below_drewN | apply below_drew1) | exact HB.out)⟩
    · replace c6 := Bool.eq_false_iff.mpr c6
      subst c6
      have H1 : (some (([] : List Int), 42)) = some (r1, r2) := by rw [if_neg (show ¬ (false = true) by decide)] at H; exact H
      clear H
      have H := H1
      clear H1
      simp only [Option.some.injEq, Prod.mk.injEq] at H
      obtain ⟨rfl, rfl⟩ := H
      go_enter Try.func21, Try.ntmps21
      go_wp2_with (first | ((with_reducible refine gate_callee (f := 16) rfl ?_); refine goesL_ (some 13) rfl rfl Try.func16 (by kernel_rfl) rfl #[.slice A1 l1.length c1] rfl (by (try simp only [List.map_toArray, List.map_cons, List.map_nil]); first | done | rfl | (simp only [List.length_drop, List.length_take]; rfl)) ?_; (with_reducible refine (batch_Check.calls k _ _ l1 t154 t155 _ ?side1 ?side2 A3.out).mono ?_); (case side1 => repeat (first | exact HR1.out | (with_reducible refine Kd.C_alloc ?_ _) | (with_reducible refine Kd.C_drewN ?_ _) | (with_reducible refine Kd.C_drew ?_))); (case side2 => exact HC1.out); rintro e w41 ⟨rfl, hb⟩; refine ⟨_, rfl, ?_⟩; have n0_ := Aside0.mk (below_step (by repeat (first | (with_reducible first | exact HB.out | apply below_alloc | apply pw_below_drewN | apply below_drew1) | exact HB.out)) hb); clear HB; have HB := n0_; clear n0_; (try clear hb); (try clear hb2); (try clear hk); (try clear hi)) | ((with_reducible refine gate_callee (f := 53) rfl ?_); refine goesL_ (some 22) rfl rfl Try.func53 (by kernel_rfl) rfl #[.int .u64 a0, .int .i64 (l1.length : Int)] rfl (by (try simp only [List.map_toArray, List.map_cons, List.map_nil]); first | done | rfl | (simp only [List.length_drop, List.length_take]; rfl)) ?_; (with_reducible refine (batch_fit.calls a0 (l1.length : Int) false _ A5.out).mono ?_); rintro e w' ⟨rfl, ⟨nd, rfl⟩⟩; refine ⟨_, rfl, ?_⟩))
      go_ret2
      exact ⟨_, by first | rfl | (simp [errW_none, errW_some] <;> rfl) | (simp [*, errW_none, errW_some] <;> rfl), by first | exact Kd.R_nil _ _ _ _ _ | exact Kd.N_nil _ _ _ _ _ | exact Kd.V_nil _ _ _ _ _ | exact Kd.Q_nil _ _ _ _ _ | exact Kd.S_nil _ _ _ _ _, by repeat (first | (with_reducible first | exact HB.out | apply below_alloc | apply pw_below_drewN | apply below_drew1) | exact HB.out)⟩
  · rw [if_neg c4] at H
    have c4b0 : (t155 == 0) = false := beq_eq_false_iff_ne.mpr c4
    have c4b1 : (t155 != 0) = true := bne_iff_ne.mpr c4
    simp only [Option.some.injEq, Prod.mk.injEq] at H
    obtain ⟨rfl, rfl⟩ := H
    go_enter Try.func21, Try.ntmps21
    go_wp2_with (first | ((with_reducible refine gate_callee (f := 16) rfl ?_); refine goesL_ (some 13) rfl rfl Try.func16 (by kernel_rfl) rfl #[.slice A1 l1.length c1] rfl (by (try simp only [List.map_toArray, List.map_cons, List.map_nil]); first | done | rfl | (simp only [List.length_drop, List.length_take]; rfl)) ?_; (with_reducible refine (batch_Check.calls k _ _ l1 t154 t155 _ ?side1 ?side2 A3.out).mono ?_); (case side1 => repeat (first | exact HR1.out | (with_reducible refine Kd.C_alloc ?_ _) | (with_reducible refine Kd.C_drewN ?_ _) | (with_reducible refine Kd.C_drew ?_))); (case side2 => exact HC1.out); rintro e w42 ⟨rfl, hb⟩; refine ⟨_, rfl, ?_⟩; have n0_ := Aside0.mk (below_step (by repeat (first | (with_reducible first | exact HB.out | apply below_alloc | apply pw_below_drewN | apply below_drew1) | exact HB.out)) hb); clear HB; have HB := n0_; clear n0_; (try clear hb); (try clear hb2); (try clear hk); (try clear hi)))
    go_ret2
    exact ⟨_, by first | rfl | (simp [errW_none, errW_some] <;> rfl) | (simp [*, errW_none, errW_some] <;> rfl), by first | exact Kd.R_nil _ _ _ _ _ | exact Kd.N_nil _ _ _ _ _ | exact Kd.V_nil _ _ _ _ _ | exact Kd.Q_nil _ _ _ _ _ | exact Kd.S_nil _ _ _ _ _, by repeat (first | (with_reducible first | exact HB.out | apply below_alloc | apply pw_below_drewN | apply below_drew1) | exact HB.out)⟩

end Go.Proofs.Ythkooncibfkepaa.G

/- Printed by the session's program over the kit's print, out of the translation: functions as plain Lean functions, and the proofs that the calls come to them. -/
namespace Go.Proofs.Ythkooncibfkepaa.G
open Go.RowKit Go.Proofs.YthkooncibfkepaaW.PrintWords Go.Proofs.YthkooncibfkepaaW.PrintLast Go.Proofs.YthkooncibfkepaaW.PrintMore
attribute [local go_sem] max2_int min2_int max_two min_two max_three min_three max_four min_four   -- for this text's walks alone
set_option linter.unusedVariables false
set_option linter.unusedSimpArgs false

/-! ### moraineref04_Fit: function 57 -/
def moraineref04_Fit.f (a0 : Int) (a1 : Int) : Option (Bool) := if a0 ≤ 72057594037927935 then (if a1 = 0 then (some true) else (some (decide ((IntKind.u64.wrap (wrap64 (a1 - 1))) ≤ (IntKind.u64.wrap (72057594037927935 - a0)))))) else (some false)
set_option maxHeartbeats 8000000 in
set_option maxRecDepth 100000 in
theorem moraineref04_Fit.calls (a0 : Int) (a1 : Int) (r : Bool) (w : World) (h : moraineref04_Fit.f a0 a1 = some r) :
    Calls Try.prog 57 #[.int .u64 a0, .int .i64 a1] w fun e w' => e = .returned (.bool r) ∧ Drawn0 w w' := by
  have H : (if a0 ≤ 72057594037927935 then (if a1 = 0 then (some true) else (some (decide ((IntKind.u64.wrap (wrap64 (a1 - 1))) ≤ (IntKind.u64.wrap (72057594037927935 - a0)))))) else (some false)) = some r := h
  clear h
  by_cases c3 : a0 ≤ 72057594037927935
  · rw [if_pos c3] at H
    have c3b0 : decide (a0 ≤ 72057594037927935) = true := decide_eq_true c3
    clear c3
    by_cases c4 : a1 = 0
    · rw [if_pos c4] at H
      have c4b0 : (a1 == 0) = true := beq_iff_eq.mpr c4
      have c4b1 : (a1 != 0) = false := bne_eq_false_iff_eq.mpr c4
      clear c4
      obtain rfl := Option.some.inj H
      go_enter Try.func57, Try.ntmps57
      go_wp2
      go_ret
      exact ⟨by first | rfl | (simp; done) | (simp [*]; done), by repeat (first | exact Drawn0.refl _ | apply Drawn0.step)⟩
    · rw [if_neg c4] at H
      have c4b0 : (a1 == 0) = false := beq_eq_false_iff_ne.mpr c4
      have c4b1 : (a1 != 0) = true := bne_iff_ne.mpr c4
      obtain rfl := Option.some.inj H
      go_enter Try.func57, Try.ntmps57
      go_wp2
      go_ret
      exact ⟨by first | rfl | (simp; done) | (simp [*]; done), by repeat (first | exact Drawn0.refl _ | apply Drawn0.step)⟩
  · rw [if_neg c3] at H
    have c3b0 : decide (a0 ≤ 72057594037927935) = false := decide_eq_false c3
    clear c3
    obtain rfl := Option.some.inj H
    go_enter Try.func57, Try.ntmps57
    go_wp2
    go_ret
    exact ⟨by first | rfl | (simp; done) | (simp [*]; done), by repeat (first | exact Drawn0.refl _ | apply Drawn0.step)⟩

end Go.Proofs.Ythkooncibfkepaa.G

/- Printed by the session's program over the kit's print, out of the translation: functions as plain Lean functions, and the proofs that the calls come to them. -/
namespace Go.Proofs.Ythkooncibfkepaa.G
open Go.RowKit Go.Proofs.YthkooncibfkepaaW.PrintWords Go.Proofs.YthkooncibfkepaaW.PrintLast Go.Proofs.YthkooncibfkepaaW.PrintMore
attribute [local go_sem] max2_int min2_int max_two min_two max_three min_three max_four min_four   -- for this text's walks alone
set_option linter.unusedVariables false
set_option linter.unusedSimpArgs false

/-! ### moraineref04_fixed: function 58 -/
def moraineref04_fixed.l0 : Nat → List Int → Int → Int → Int → Option (List Int)
  | 0, _, _, _, _ => none
  | k + 1, x0, x1, x2, x7 => if x7 < x2 then (if 0 ≤ (wrap64 (8 * x7)) then (if x0.length < 140737488355328 then (moraineref04_fixed.l0 k (x0 ++ [(shr .u64 x1 (wrap64 (8 * x7))) % 256]) x1 x2 (wrap64 (x7 + 1))) else (none)) else (none)) else (some x0)
def moraineref04_fixed.f (k : Nat) (l0 : List Int) (a1 : Int) (a2 : Int) : Option (List Int) := moraineref04_fixed.l0 k l0 a1 a2 0
theorem moraineref04_fixed.mono_l : ∀ k, (∀ y0 y1 y2 y3, LeO (moraineref04_fixed.l0 k y0 y1 y2 y3) (moraineref04_fixed.l0 (k + 1) y0 y1 y2 y3))
  | 0 => fun _ _ _ _ r h => by simp [moraineref04_fixed.l0] at h
  | k + 1 => by
    have ih0 := moraineref04_fixed.mono_l k
    · intro y0 y1 y2 y3
      unfold moraineref04_fixed.l0
      repeat' first
      | (with_reducible exact ih0 _ _ _ _)
      | (with_reducible exact LeO.refl _)
      | (with_reducible exact LeO.none _)
      | (with_reducible refine LeO.ite ?_ ?_)
      | (with_reducible refine LeO.bind ?_ (fun _ => ?_))
      | exact ih0 _ _ _ _
      | exact LeO.none _
      | refine LeO.ite ?_ ?_
      | refine LeO.bind ?_ (fun _ => ?_)
theorem moraineref04_fixed.mono : ∀ a0 a1 a2 k, LeO (moraineref04_fixed.f k a0 a1 a2) (moraineref04_fixed.f (k + 1) a0 a1 a2) := by
  intro a0 a1 a2 k
  have ih0 := moraineref04_fixed.mono_l k
  unfold moraineref04_fixed.f
  repeat' first
      | (with_reducible exact ih0 _ _ _ _)
      | (with_reducible exact LeO.refl _)
      | (with_reducible exact LeO.none _)
      | (with_reducible refine LeO.ite ?_ ?_)
      | (with_reducible refine LeO.bind ?_ (fun _ => ?_))
      | exact ih0 _ _ _ _
      | exact LeO.none _
      | refine LeO.ite ?_ ?_
      | refine LeO.bind ?_ (fun _ => ?_)
set_option maxHeartbeats 8000000 in
set_option maxRecDepth 100000 in
theorem moraineref04_fixed.calls (k : Nat) (P0_ : Nat → Prop) (u9000_ : Value) (l0 : List Int) (a1 : Int) (a2 : Int) (r : List Int) (w0 w : World) (hB : Below w0.heap.size w0 w) (ho0 : Kd.R (Kd.int .u8) 5 w w0.heap.size P0_ u9000_ l0) (h : moraineref04_fixed.f k l0 a1 a2 = some r) :
    Calls Try.prog 58 #[u9000_, .int .u64 a1, .int .i64 a2] w fun e w' => ∃ v0_ : Value, e = .returned (v0_) ∧ Kd.R (Kd.int .u8) 5 w' w0.heap.size (fun k_ => (P0_ k_ ∨ w.heap.size ≤ k_)) v0_ r ∧ Below w0.heap.size w0 w' ∧ Kept w w' (fun k_ => P0_ k_) := by
  have HO0 := Aside0.mk (show Kd.R (Kd.int .u8) 5 w w0.heap.size (fun k_ => (P0_ k_ ∨ w.heap.size ≤ k_)) u9000_ l0 from Kd.R_mono ho0 (fun k_ hk => (.inl hk)))
  have HK := Aside0.mk (Kept.refl w (fun k_ => P0_ k_))
  have HW0 := Aside0.mk hB.size
  have HB := Aside0.mk hB
  clear hB
  have H : (moraineref04_fixed.l0 k l0 a1 a2 0) = some r := h
  clear h
  have H' := Aside0.mk H
  clear H
  go_enter Try.func58, Try.ntmps58
  go_wp2
  go_loopg [0, 7] k (fun kq v0 v7 w' => ∃ (x0_1 : List Int) (x7_1 : Int), v7 = .int .i64 x7_1 ∧ Aside0 (moraineref04_fixed.l0 kq x0_1 a1 a2 x7_1 = some r) ∧ Aside0 (kq ≤ k) ∧ Aside0 (Kd.R (Kd.int .u8) 5 w' w0.heap.size (fun k_ => (P0_ k_ ∨ w.heap.size ≤ k_)) v0 x0_1) ∧ Aside0 (Kept w w' (fun k_ => P0_ k_)) ∧ Aside0 (Below w0.heap.size w0 w'))
  case atStart => exact ⟨(l0), (0), (by first | rfl | (simp; done) | (simp [*]; done)), H', ⟨Nat.le_refl _⟩, ⟨by (with_reducible repeat (first | apply Kd.R_alloc | apply Kd.R_drewN | apply Kd.R_drew)); exact HO0.out⟩, ⟨by repeat (first | (with_reducible first | exact HK.out | apply Kept.alloc | apply Kept.drewN | apply Kept.drew) | exact HK.out)⟩, ⟨by repeat (first | (with_reducible first | exact HB.out | apply below_alloc | apply pw_below_drewN | apply below_drew1) | exact HB.out)⟩⟩
  case round =>
    clear H'
    try clear p2
    obtain ⟨x0_1, x7_1, rfl, HA, HK1, HO_0, HK, HB⟩ := hrel
    cases gk with
    | zero => exact absurd HA.out (by simp [moraineref04_fixed.l0])
    | succ k1 =>
      have H := HA.out
      clear HA
      simp only [moraineref04_fixed.l0] at H
      by_cases c4 : x7_1 < a2
      · rw [if_pos c4] at H
        have c4b0 : decide (x7_1 < a2) = true := decide_eq_true c4
        clear c4
        obtain ⟨ji5, hji5⟩ : ∃ j_ : Int, (wrap64 (8 * x7_1)) = j_ := ⟨_, rfl⟩
        replace H : (if 0 ≤ (ji5) then (if x0_1.length < 140737488355328 then (moraineref04_fixed.l0 k1 (x0_1 ++ [(shr .u64 a1 (ji5)) % 256]) a1 a2 (wrap64 (x7_1 + 1))) else (none)) else (none)) = some r := by first | (rw [hji5] at H; exact H) | (simp only [hji5] at H ⊢; exact H)
        have hji5w : (IntKind.i64.wrap (8 * x7_1)) = ji5 := (i64_w _).trans hji5
        by_cases c6 : 0 ≤ (ji5)
        · rw [if_pos c6] at H
          have c6b0 := eq_true c6
          have c6b1 : decide (0 ≤ (ji5)) = true := decide_eq_true c6
          clear c6
          obtain ⟨ji7, hji7⟩ : ∃ j_ : Int, (shr .u64 a1 (ji5)) = j_ := ⟨_, rfl⟩
          replace H : (if x0_1.length < 140737488355328 then (moraineref04_fixed.l0 k1 (x0_1 ++ [(ji7) % 256]) a1 a2 (wrap64 (x7_1 + 1))) else (none)) = some r := by first | (rw [hji7] at H; exact H) | (simp only [hji7] at H ⊢; exact H)
          have hji7_ : (a1 / 2 ^ min (ji5).toNat 64) = ji7 := hji7
          have hji7z : (ji5) ≤ 64 → (a1 / 2 ^ (ji5).toNat) = ji7 := shr_small hji7
          by_cases c8 : x0_1.length < 140737488355328
          · rw [if_pos c8] at H
            have LMc8 := Aside0.mk c8
            clear c8
            obtain ⟨y180, hy180⟩ : ∃ y_ : List Int, y_ = (x0_1 ++ [(ji7) % 256]) := ⟨_, rfl⟩
            replace H : (moraineref04_fixed.l0 k1 y180 a1 a2 (wrap64 (x7_1 + 1))) = some r := by first | (rw [hy180]; with_reducible exact H) | (have H2_ := (Option.bind_some _ _).symm.trans H; rw [hy180]; with_reducible exact H2_) | (have H2_ := (Option.bind_some _ _).symm.trans H; with_reducible exact H2_) | with_reducible exact H | (rw [hy180]; exact H) | exact H
            have Ny180 := Aside0.mk hy180
            clear hy180
            have H' := Aside0.mk H
            clear H
            go_wp2_with (first | ((with_reducible refine gate_builtin (b := .append) (xs := #[.tmp 13, .tmp 19]) rfl ?_); at_builtin; refine Kd.R_append (Kd.int .u8) (w0 := w0) w0.heap.size rfl (.tmp 13) (.tmp 19) 33 5 (.int .u8 0) 1 rfl Try.underlying33 info5 rfl (by decide) (by omega) u0 x0_1 ((ji7) % 256) [.int .u8 ((ji7) % 256)] (fun k_ => (P0_ k_ ∨ w.heap.size ≤ k_)) (fun _ => False) rfl rfl ?aP (fun _ hk => hk.elim) ?aF ?aO ?aB ?aS ?aL ?_; (case aP => exact rfl); (case aB => exact (by repeat (first | (with_reducible first | exact HB.out | apply below_alloc | apply pw_below_drewN | apply below_drew1) | exact HB.out))); (case aF => exact (fun k_ hk => (.inr (Nat.le_trans (by first | exact HK.out.1 | exact (show Kept w _ (fun k_ => P0_ k_) from by repeat (first | (with_reducible first | exact HK.out | apply Kept.alloc | apply Kept.drewN | apply Kept.drew) | exact HK.out)).1) hk)))); (case aO => exact (by (with_reducible repeat (first | apply Kd.R_alloc | apply Kd.R_drewN | apply Kd.R_drew)); exact HO_0.out)); (case aS => exact (below_size (by repeat (first | (with_reducible first | exact HB.out | apply below_alloc | apply pw_below_drewN | apply below_drew1) | exact HB.out)))); (case aL => have := LMc8.out; omega); intro v181 w9 ho hb hg hat; rw [← Ny180.out] at ho; have n0_ := Aside0.mk (hb); have n1_ := Aside0.mk (Kept.of_grown (S := (fun k_ => P0_ k_)) hg (by repeat (first | (with_reducible first | exact HK.out | apply Kept.alloc | apply Kept.drewN | apply Kept.drew) | exact HK.out)) (fun k_ e_ => (HO_0.out.1 k_ e_))); have n2_ := Aside0.mk (ho); clear HB; clear HK; clear HO_0; have HB := n0_; have HK := n1_; have HO182 := n2_; clear n0_ n1_ n2_; clear ho hb hg hat))
            go_roundg k1
            case measure => have := HK1.out; omega
            case rel => exact ⟨(y180), (wrap64 (x7_1 + 1)), (by first | rfl | (simp; done) | (simp [*]; done)), H', ⟨by have := HK1.out; omega⟩, ⟨by (with_reducible repeat (first | apply Kd.R_alloc | apply Kd.R_drewN | apply Kd.R_drew)); exact HO182.out⟩, ⟨by repeat (first | (with_reducible first | exact HK.out | apply Kept.alloc | apply Kept.drewN | apply Kept.drew) | exact HK.out)⟩, ⟨by repeat (first | (with_reducible first | exact HB.out | apply below_alloc | apply pw_below_drewN | apply below_drew1) | exact HB.out)⟩⟩
          · rw [if_neg c8] at H
            exact absurd H (by simp)
        · rw [if_neg c6] at H
          exact absurd H (by simp)
      · rw [if_neg c4] at H
        have c4b0 : decide (x7_1 < a2) = false := decide_eq_false c4
        clear c4
        obtain rfl := Option.some.inj H
        go_wp2
        go_ret
        exact ⟨_, by first | rfl | (simp [errW_none, errW_some] <;> rfl) | (simp [*, errW_none, errW_some] <;> rfl), by (with_reducible repeat (first | apply Kd.R_alloc | apply Kd.R_drewN | apply Kd.R_drew)); exact HO_0.out, by repeat (first | (with_reducible first | exact HB.out | apply below_alloc | apply pw_below_drewN | apply below_drew1) | exact HB.out), by repeat (first | (with_reducible first | exact HK.out | apply Kept.alloc | apply Kept.drewN | apply Kept.drew) | exact HK.out)⟩

end Go.Proofs.Ythkooncibfkepaa.G

/- Printed by the session's program over the kit's print, out of the translation: functions as plain Lean functions, and the proofs that the calls come to them. -/
namespace Go.Proofs.Ythkooncibfkepaa.G
open Go.RowKit Go.Proofs.YthkooncibfkepaaW.PrintWords Go.Proofs.YthkooncibfkepaaW.PrintLast Go.Proofs.YthkooncibfkepaaW.PrintMore
attribute [local go_sem] max2_int min2_int max_two min_two max_three min_three max_four min_four   -- for this text's walks alone
set_option linter.unusedVariables false
set_option linter.unusedSimpArgs false

/-! ### moraineref04_text: function 59 -/
def moraineref04_text.l0 : Nat → List Int → ByteArray → Int → Option (List Int)
  | 0, _, _, _ => none
  | k + 1, x0, x1, x5 => if x5 ≥ 128 then (if x0.length < 140737488355328 then (moraineref04_text.l0 k (x0 ++ [(wrap64 ((Int.tmod x5 128) + 128)) % 256]) x1 (wrap64 (Int.tdiv x5 128))) else (none)) else (if x0.length < 140737488355328 then ((some (x0 ++ [(x5) % 256] : List Int)).bind fun y186 => (if y186.length + x1.size < 140737488355328 then (some (y186 ++ bytesOf x1)) else (none))) else (none))
def moraineref04_text.f (k : Nat) (l0 : List Int) (a1 : ByteArray) : Option (List Int) := moraineref04_text.l0 k l0 a1 (a1.size : Int)
theorem moraineref04_text.mono_l : ∀ k, (∀ y0 y1 y2, LeO (moraineref04_text.l0 k y0 y1 y2) (moraineref04_text.l0 (k + 1) y0 y1 y2))
  | 0 => fun _ _ _ r h => by simp [moraineref04_text.l0] at h
  | k + 1 => by
    have ih0 := moraineref04_text.mono_l k
    · intro y0 y1 y2
      unfold moraineref04_text.l0
      repeat' first
      | (with_reducible exact ih0 _ _ _)
      | (with_reducible exact LeO.refl _)
      | (with_reducible exact LeO.none _)
      | (with_reducible refine LeO.ite ?_ ?_)
      | (with_reducible refine LeO.bind ?_ (fun _ => ?_))
      | exact ih0 _ _ _
      | exact LeO.none _
      | refine LeO.ite ?_ ?_
      | refine LeO.bind ?_ (fun _ => ?_)
theorem moraineref04_text.mono : ∀ a0 a1 k, LeO (moraineref04_text.f k a0 a1) (moraineref04_text.f (k + 1) a0 a1) := by
  intro a0 a1 k
  have ih0 := moraineref04_text.mono_l k
  unfold moraineref04_text.f
  repeat' first
      | (with_reducible exact ih0 _ _ _)
      | (with_reducible exact LeO.refl _)
      | (with_reducible exact LeO.none _)
      | (with_reducible refine LeO.ite ?_ ?_)
      | (with_reducible refine LeO.bind ?_ (fun _ => ?_))
      | exact ih0 _ _ _
      | exact LeO.none _
      | refine LeO.ite ?_ ?_
      | refine LeO.bind ?_ (fun _ => ?_)
set_option maxHeartbeats 8000000 in
set_option maxRecDepth 100000 in
theorem moraineref04_text.calls (k : Nat) (P0_ : Nat → Prop) (u9000_ : Value) (l0 : List Int) (a1 : ByteArray) (r : List Int) (w0 w : World) (hB : Below w0.heap.size w0 w) (ho0 : Kd.R (Kd.int .u8) 5 w w0.heap.size P0_ u9000_ l0) (h : moraineref04_text.f k l0 a1 = some r) :
    Calls Try.prog 59 #[u9000_, .string a1] w fun e w' => ∃ v0_ : Value, e = .returned (v0_) ∧ Kd.R (Kd.int .u8) 5 w' w0.heap.size (fun _ => True) v0_ r ∧ Below w0.heap.size w0 w' ∧ Kept w w' (fun k_ => P0_ k_) := by
  have HO0 := Aside0.mk (show Kd.R (Kd.int .u8) 5 w w0.heap.size (fun k_ => (P0_ k_ ∨ w.heap.size ≤ k_)) u9000_ l0 from Kd.R_mono ho0 (fun k_ hk => (.inl hk)))
  have HK := Aside0.mk (Kept.refl w (fun k_ => P0_ k_))
  have HW0 := Aside0.mk hB.size
  have HB := Aside0.mk hB
  clear hB
  have H : (moraineref04_text.l0 k l0 a1 (a1.size : Int)) = some r := h
  clear h
  have H' := Aside0.mk H
  clear H
  go_enter Try.func59, Try.ntmps59
  go_wp2
  go_loopg [0, 5] k (fun kq v0 v5 w' => ∃ (x0_1 : List Int) (x5_1 : Int), v5 = .int .i64 x5_1 ∧ Aside0 (moraineref04_text.l0 kq x0_1 a1 x5_1 = some r) ∧ Aside0 (kq ≤ k) ∧ Aside0 (Kd.R (Kd.int .u8) 5 w' w0.heap.size (fun k_ => (P0_ k_ ∨ w.heap.size ≤ k_)) v0 x0_1) ∧ Aside0 (Kept w w' (fun k_ => P0_ k_)) ∧ Aside0 (Below w0.heap.size w0 w'))
  case atStart => exact ⟨(l0), ((a1.size : Int)), (by first | rfl | (simp; done) | (simp [*]; done)), H', ⟨Nat.le_refl _⟩, ⟨by (with_reducible repeat (first | apply Kd.R_alloc | apply Kd.R_drewN | apply Kd.R_drew)); exact HO0.out⟩, ⟨by repeat (first | (with_reducible first | exact HK.out | apply Kept.alloc | apply Kept.drewN | apply Kept.drew) | exact HK.out)⟩, ⟨by repeat (first | (with_reducible first | exact HB.out | apply below_alloc | apply pw_below_drewN | apply below_drew1) | exact HB.out)⟩⟩
  case round =>
    clear H'
    try clear p2
    obtain ⟨x0_1, x5_1, rfl, HA, HK1, HO_0, HK, HB⟩ := hrel
    cases gk with
    | zero => exact absurd HA.out (by simp [moraineref04_text.l0])
    | succ k1 =>
      have H := HA.out
      clear HA
      simp only [moraineref04_text.l0] at H
      by_cases c3 : x5_1 ≥ 128
      · rw [if_pos c3] at H
        have c3b0 : decide (128 ≤ x5_1) = true := decide_eq_true c3
        clear c3
        by_cases c4 : x0_1.length < 140737488355328
        · rw [if_pos c4] at H
          have LMc4 := Aside0.mk c4
          clear c4
          obtain ⟨y183, hy183⟩ : ∃ y_ : List Int, y_ = (x0_1 ++ [(wrap64 ((Int.tmod x5_1 128) + 128)) % 256]) := ⟨_, rfl⟩
          replace H : (moraineref04_text.l0 k1 y183 a1 (wrap64 (Int.tdiv x5_1 128))) = some r := by first | (rw [hy183]; with_reducible exact H) | (have H2_ := (Option.bind_some _ _).symm.trans H; rw [hy183]; with_reducible exact H2_) | (have H2_ := (Option.bind_some _ _).symm.trans H; with_reducible exact H2_) | with_reducible exact H | (rw [hy183]; exact H) | exact H
          have Ny183 := Aside0.mk hy183
          clear hy183
          have H' := Aside0.mk H
          clear H
          go_wp2_with (first | ((with_reducible refine gate_builtin (b := .append) (xs := #[.tmp 10, .tmp 15]) rfl ?_); at_builtin; refine Kd.R_append (Kd.int .u8) (w0 := w0) w0.heap.size rfl (.tmp 10) (.tmp 15) 33 5 (.int .u8 0) 1 rfl Try.underlying33 info5 rfl (by decide) (by omega) u0 x0_1 ((wrap64 ((Int.tmod x5_1 128) + 128)) % 256) [.int .u8 ((wrap64 ((Int.tmod x5_1 128) + 128)) % 256)] (fun k_ => (P0_ k_ ∨ w.heap.size ≤ k_)) (fun _ => False) rfl rfl ?aP (fun _ hk => hk.elim) ?aF ?aO ?aB ?aS ?aL ?_; (case aP => exact rfl); (case aB => exact (by repeat (first | (with_reducible first | exact HB.out | apply below_alloc | apply pw_below_drewN | apply below_drew1) | exact HB.out))); (case aF => exact (fun k_ hk => (.inr (Nat.le_trans (by first | exact HK.out.1 | exact (show Kept w _ (fun k_ => P0_ k_) from by repeat (first | (with_reducible first | exact HK.out | apply Kept.alloc | apply Kept.drewN | apply Kept.drew) | exact HK.out)).1) hk)))); (case aO => exact (by (with_reducible repeat (first | apply Kd.R_alloc | apply Kd.R_drewN | apply Kd.R_drew)); exact HO_0.out)); (case aS => exact (below_size (by repeat (first | (with_reducible first | exact HB.out | apply below_alloc | apply pw_below_drewN | apply below_drew1) | exact HB.out)))); (case aL => have := LMc4.out; omega); intro v184 w5 ho hb hg hat; rw [← Ny183.out] at ho; have n0_ := Aside0.mk (hb); have n1_ := Aside0.mk (Kept.of_grown (S := (fun k_ => P0_ k_)) hg (by repeat (first | (with_reducible first | exact HK.out | apply Kept.alloc | apply Kept.drewN | apply Kept.drew) | exact HK.out)) (fun k_ e_ => (HO_0.out.1 k_ e_))); have n2_ := Aside0.mk (ho); clear HB; clear HK; clear HO_0; have HB := n0_; have HK := n1_; have HO185 := n2_; clear n0_ n1_ n2_; clear ho hb hg hat))
          go_roundg k1
          case measure => have := HK1.out; omega
          case rel => exact ⟨(y183), (wrap64 (Int.tdiv x5_1 128)), (by first | rfl | (simp; done) | (simp [*]; done)), H', ⟨by have := HK1.out; omega⟩, ⟨by (with_reducible repeat (first | apply Kd.R_alloc | apply Kd.R_drewN | apply Kd.R_drew)); exact HO185.out⟩, ⟨by repeat (first | (with_reducible first | exact HK.out | apply Kept.alloc | apply Kept.drewN | apply Kept.drew) | exact HK.out)⟩, ⟨by repeat (first | (with_reducible first | exact HB.out | apply below_alloc | apply pw_below_drewN | apply below_drew1) | exact HB.out)⟩⟩
        · rw [if_neg c4] at H
          exact absurd H (by simp)
      · rw [if_neg c3] at H
        have c3b0 : decide (128 ≤ x5_1) = false := decide_eq_false c3
        clear c3
        by_cases c6 : x0_1.length < 140737488355328
        · rw [if_pos c6] at H
          have LMc6 := Aside0.mk c6
          clear c6
          obtain ⟨y186, hy186⟩ : ∃ y_ : List Int, y_ = (x0_1 ++ [(x5_1) % 256]) := ⟨_, rfl⟩
          replace H : (if y186.length + a1.size < 140737488355328 then (some (y186 ++ bytesOf a1)) else (none)) = some r := by first | (rw [hy186]; with_reducible exact H) | (have H2_ := (Option.bind_some _ _).symm.trans H; rw [hy186]; with_reducible exact H2_) | (have H2_ := (Option.bind_some _ _).symm.trans H; with_reducible exact H2_) | with_reducible exact H | (rw [hy186]; exact H) | exact H
          have Ny186 := Aside0.mk hy186
          clear hy186
          by_cases c7 : y186.length + a1.size < 140737488355328
          · rw [if_pos c7] at H
            have LMc7 := Aside0.mk c7
            clear c7
            obtain ⟨y189, hy189⟩ : ∃ y_ : List Int, y_ = (y186 ++ bytesOf a1) := ⟨_, rfl⟩
            replace H : (some y189) = some r := by first | (rw [hy189]; with_reducible exact H) | (have H2_ := (Option.bind_some _ _).symm.trans H; rw [hy189]; with_reducible exact H2_) | (have H2_ := (Option.bind_some _ _).symm.trans H; with_reducible exact H2_) | with_reducible exact H | (rw [hy189]; exact H) | exact H
            have Ny189 := Aside0.mk hy189
            clear hy189
            obtain rfl := Option.some.inj H
            go_wp2_with (first | ((with_reducible refine gate_builtin (b := .append) (xs := #[.tmp 19, .tmp 22]) rfl ?_); at_builtin; refine Kd.R_append (Kd.int .u8) (w0 := w0) w0.heap.size rfl (.tmp 19) (.tmp 22) 33 5 (.int .u8 0) 1 rfl Try.underlying33 info5 rfl (by decide) (by omega) u0 x0_1 ((x5_1) % 256) [.int .u8 ((x5_1) % 256)] (fun k_ => (P0_ k_ ∨ w.heap.size ≤ k_)) (fun _ => False) rfl rfl ?aP (fun _ hk => hk.elim) ?aF ?aO ?aB ?aS ?aL ?_; (case aP => exact rfl); (case aB => exact (by repeat (first | (with_reducible first | exact HB.out | apply below_alloc | apply pw_below_drewN | apply below_drew1) | exact HB.out))); (case aF => exact (fun k_ hk => (.inr (Nat.le_trans (by first | exact HK.out.1 | exact (show Kept w _ (fun k_ => P0_ k_) from by repeat (first | (with_reducible first | exact HK.out | apply Kept.alloc | apply Kept.drewN | apply Kept.drew) | exact HK.out)).1) hk)))); (case aO => exact (by (with_reducible repeat (first | apply Kd.R_alloc | apply Kd.R_drewN | apply Kd.R_drew)); exact HO_0.out)); (case aS => exact (below_size (by repeat (first | (with_reducible first | exact HB.out | apply below_alloc | apply pw_below_drewN | apply below_drew1) | exact HB.out)))); (case aL => have := LMc6.out; omega); intro v187 w8 ho hb hg hat; rw [← Ny186.out] at ho; have n0_ := Aside0.mk (hb); have n1_ := Aside0.mk (Kept.of_grown (S := (fun k_ => P0_ k_)) hg (by repeat (first | (with_reducible first | exact HK.out | apply Kept.alloc | apply Kept.drewN | apply Kept.drew) | exact HK.out)) (fun k_ e_ => (HO_0.out.1 k_ e_))); have n2_ := Aside0.mk (ho); clear HB; clear HK; clear HO_0; have HB := n0_; have HK := n1_; have HO188 := n2_; clear n0_ n1_ n2_; clear ho hb hg hat) | (at_builtin; refine print_append_str (w0 := w0) w0.heap.size rfl (.tmp 24) _ 33 9 5 rfl Try.underlying33 Try.underlying9 info5 v187 y186 a1 rfl rfl ?aO ?aB ?aS ?aL ?_; (case aB => exact (by repeat (first | (with_reducible first | exact HB.out | apply below_alloc | apply pw_below_drewN | apply below_drew1) | exact HB.out))); (case aO => exact (Kd.own_of_R (by (with_reducible repeat (first | apply Kd.R_alloc | apply Kd.R_drewN | apply Kd.R_drew)); exact HO188.out))); (case aS => exact (below_size (by repeat (first | (with_reducible first | exact HB.out | apply below_alloc | apply pw_below_drewN | apply below_drew1) | exact HB.out)))); (case aL => have := LMc7.out; omega); intro v190 w9 ho0 hb hg; have ho := Kd.R_of_own (h1 := fun _ => rfl) (ok := fun _ => True) ho0 (fun _ _ => trivial); clear ho0; have hat := True.intro; rw [← Ny189.out] at ho; change Kd.R (Kd.int .u8) 5 w9 w0.heap.size (fun _ => True) v190 y189 at ho; have n0_ := Aside0.mk (hb); have n1_ := Aside0.mk (Kept.of_grown (S := (fun k_ => P0_ k_)) hg (by repeat (first | (with_reducible first | exact HK.out | apply Kept.alloc | apply Kept.drewN | apply Kept.drew) | exact HK.out)) (fun k_ e_ => (HO188.out.1 k_ e_))); have n2_ := Aside0.mk (ho); clear HB; clear HK; clear HO188; have HB := n0_; have HK := n1_; have HO191 := n2_; clear n0_ n1_ n2_; clear ho hb hg hat))
            go_ret
            exact ⟨_, by first | rfl | (simp [errW_none, errW_some] <;> rfl) | (simp [*, errW_none, errW_some] <;> rfl), by (with_reducible repeat (first | apply Kd.R_alloc | apply Kd.R_drewN | apply Kd.R_drew)); exact HO191.out, by repeat (first | (with_reducible first | exact HB.out | apply below_alloc | apply pw_below_drewN | apply below_drew1) | exact HB.out), by repeat (first | (with_reducible first | exact HK.out | apply Kept.alloc | apply Kept.drewN | apply Kept.drew) | exact HK.out)⟩
          · rw [if_neg c7] at H
            exact absurd H (by simp)
        · rw [if_neg c6] at H
          exact absurd H (by simp)

end Go.Proofs.Ythkooncibfkepaa.G

/- Printed by the session's program over the kit's print, out of the translation: functions as plain Lean functions, and the proofs that the calls come to them. -/
namespace Go.Proofs.Ythkooncibfkepaa.G
open Go.RowKit Go.Proofs.YthkooncibfkepaaW.PrintWords Go.Proofs.YthkooncibfkepaaW.PrintLast Go.Proofs.YthkooncibfkepaaW.PrintMore
attribute [local go_sem] max2_int min2_int max_two min_two max_three min_three max_four min_four   -- for this text's walks alone
set_option linter.unusedVariables false
set_option linter.unusedSimpArgs false

/-! ### moraineref04_Encode: function 22 -/
def moraineref04_Encode.l0 : Nat → List (S65) → List Int → Int → Option (List Int × Int)
  | 0, _, _, _ => none
  | k + 1, x1, x8, x9 => if x9 < (x1.length : Int) then (if 0 ≤ x9 then (if x8.length < 140737488355328 then ((moraineref04_text.f k (x8 ++ [((rd_T65 x1 x9).f0) % 256]) ((rd_T65 x1 x9).f1)).bind fun t206 => (if ((rd_T65 x1 x9).f0) = 0 then (moraineref04_Encode.l0 k x1 t206 (wrap64 (x9 + 1))) else ((moraineref04_text.f k t206 ((rd_T65 x1 x9).f2)).bind fun t211 => (moraineref04_Encode.l0 k x1 t211 (wrap64 (x9 + 1)))))) else (none)) else (none)) else (some (x8, 0))
def moraineref04_Encode.f (k : Nat) (a0 : Int) (l1 : List (S65)) : Option (List Int × Int) := (moraineref04_Check.f k l1).bind fun bt192 => (if bt192.2 = 0 then ((moraineref04_Fit.f a0 (l1.length : Int)).bind fun t194 => (if t194 = true then ((moraineref04_fixed.f k ([] : List Int) a0 8).bind fun t195 => ((moraineref04_fixed.f k t195 (IntKind.u64.wrap ((l1.length : Int))) 4).bind fun t198 => (moraineref04_Encode.l0 k l1 t198 0))) else (some (([] : List Int), 42)))) else (some (([] : List Int), bt192.2)))
theorem moraineref04_Encode.mono_l : ∀ k, (∀ y0 y1 y2, LeO (moraineref04_Encode.l0 k y0 y1 y2) (moraineref04_Encode.l0 (k + 1) y0 y1 y2))
  | 0 => fun _ _ _ r h => by simp [moraineref04_Encode.l0] at h
  | k + 1 => by
    have ih0 := moraineref04_Encode.mono_l k
    · intro y0 y1 y2
      unfold moraineref04_Encode.l0
      repeat' first
      | (with_reducible exact ih0 _ _ _)
      | (with_reducible exact moraineref04_Check.mono _ _)
      | (with_reducible exact moraineref04_fixed.mono _ _ _ _)
      | (with_reducible exact moraineref04_text.mono _ _ _)
      | (with_reducible exact LeO.refl _)
      | (with_reducible exact LeO.none _)
      | (with_reducible refine LeO.ite ?_ ?_)
      | (with_reducible refine LeO.bind ?_ (fun _ => ?_))
      | exact ih0 _ _ _
      | exact moraineref04_Check.mono _ _
      | exact moraineref04_fixed.mono _ _ _ _
      | exact moraineref04_text.mono _ _ _
      | exact LeO.none _
      | refine LeO.ite ?_ ?_
      | refine LeO.bind ?_ (fun _ => ?_)
theorem moraineref04_Encode.mono : ∀ a0 a1 k, LeO (moraineref04_Encode.f k a0 a1) (moraineref04_Encode.f (k + 1) a0 a1) := by
  intro a0 a1 k
  have ih0 := moraineref04_Encode.mono_l k
  unfold moraineref04_Encode.f
  repeat' first
      | (with_reducible exact ih0 _ _ _)
      | (with_reducible exact moraineref04_Check.mono _ _)
      | (with_reducible exact moraineref04_fixed.mono _ _ _ _)
      | (with_reducible exact moraineref04_text.mono _ _ _)
      | (with_reducible exact LeO.refl _)
      | (with_reducible exact LeO.none _)
      | (with_reducible refine LeO.ite ?_ ?_)
      | (with_reducible refine LeO.bind ?_ (fun _ => ?_))
      | exact ih0 _ _ _
      | exact moraineref04_Check.mono _ _
      | exact moraineref04_fixed.mono _ _ _ _
      | exact moraineref04_text.mono _ _ _
      | exact LeO.none _
      | refine LeO.ite ?_ ?_
      | refine LeO.bind ?_ (fun _ => ?_)
set_option maxHeartbeats 8000000 in
set_option maxRecDepth 100000 in
theorem moraineref04_Encode.calls (k : Nat) (a0 : Int) (A1 : Option Addr) (c1 : Nat) (l1 : List (S65)) (r1 : List Int) (r2 : Int) (w : World) (hr1 : Kd.C k65 w A1 l1.length l1) (hc1 : l1.length ≤ c1) (h : moraineref04_Encode.f k a0 l1 = some (r1, r2)) :
    Calls Try.prog 22 #[.int .u64 a0, .slice A1 l1.length c1] w fun e w' => ∃ v0_ : Value, e = .returned (.tuple #[v0_, .int .i64 r2]) ∧ Kd.R (Kd.int .u8) 5 w' w.heap.size (fun _ => True) v0_ r1 ∧ Below w.heap.size w w' := by
  have HR1 := Aside0.mk hr1
  have HC1 := Aside0.mk hc1
  clear hr1 hc1
  have HB := Aside0.mk (Below.refl w.heap.size w)
  have H : ((moraineref04_Check.f k l1).bind fun bt192 => (if bt192.2 = 0 then ((moraineref04_Fit.f a0 (l1.length : Int)).bind fun t194 => (if t194 = true then ((moraineref04_fixed.f k ([] : List Int) a0 8).bind fun t195 => ((moraineref04_fixed.f k t195 (IntKind.u64.wrap ((l1.length : Int))) 4).bind fun t198 => (moraineref04_Encode.l0 k l1 t198 0))) else (some (([] : List Int), 42)))) else (some (([] : List Int), bt192.2)))) = some (r1, r2) := h
  clear h
  replace H := Option.bind_eq_some_iff.mp H
  obtain ⟨⟨t192, t193⟩, A30, H⟩ := H
  replace H : (if t193 = 0 then ((moraineref04_Fit.f a0 (l1.length : Int)).bind fun t194 => (if t194 = true then ((moraineref04_fixed.f k ([] : List Int) a0 8).bind fun t195 => ((moraineref04_fixed.f k t195 (IntKind.u64.wrap ((l1.length : Int))) 4).bind fun t198 => (moraineref04_Encode.l0 k l1 t198 0))) else (some (([] : List Int), 42)))) else (some (([] : List Int), t193))) = some (r1, r2) := H
  have A3 := Aside0.mk A30
  clear A30
  by_cases c4 : t193 = 0
  · rw [if_pos c4] at H
    have c4b0 : (t193 == 0) = true := beq_iff_eq.mpr c4
    have c4b1 : (t193 != 0) = false := bne_eq_false_iff_eq.mpr c4
    clear c4
    replace H := Option.bind_eq_some_iff.mp H
    obtain ⟨t194, A50, H⟩ := H
    replace H : (if t194 = true then ((moraineref04_fixed.f k ([] : List Int) a0 8).bind fun t195 => ((moraineref04_fixed.f k t195 (IntKind.u64.wrap ((l1.length : Int))) 4).bind fun t198 => (moraineref04_Encode.l0 k l1 t198 0))) else (some (([] : List Int), 42))) = some (r1, r2) := H
    have A5 := Aside0.mk A50
    clear A50
    by_cases c6 : t194 = true
    · subst c6
      have H1 : ((moraineref04_fixed.f k ([] : List Int) a0 8).bind fun t195 => ((moraineref04_fixed.f k t195 (IntKind.u64.wrap ((l1.length : Int))) 4).bind fun t198 => (moraineref04_Encode.l0 k l1 t198 0))) = some (r1, r2) := by rw [if_pos rfl] at H; exact H
      clear H
      have H := H1
      clear H1
      replace H := Option.bind_eq_some_iff.mp H
      obtain ⟨t195, A70, H⟩ := H
      replace H : ((moraineref04_fixed.f k t195 (IntKind.u64.wrap ((l1.length : Int))) 4).bind fun t198 => (moraineref04_Encode.l0 k l1 t198 0)) = some (r1, r2) := H
      have A7 := Aside0.mk A70
      clear A70
      replace H := Option.bind_eq_some_iff.mp H
      obtain ⟨t198, A80, H⟩ := H
      replace H : (moraineref04_Encode.l0 k l1 t198 0) = some (r1, r2) := H
      have A8 := Aside0.mk A80
      clear A80
      have H' := Aside0.mk H
      clear H
      go_enter Try.func22, Try.ntmps22
      go_wp2_with (first | ((with_reducible refine gate_callee (f := 17) rfl ?_); refine goesL_ (some 12) rfl rfl Try.func17 (by kernel_rfl) rfl #[.slice A1 l1.length c1] rfl (by (try simp only [List.map_toArray, List.map_cons, List.map_nil]); first | done | rfl | (simp only [List.length_drop, List.length_take]; rfl)) ?_; (with_reducible refine (moraineref04_Check.calls k _ _ l1 t192 t193 _ ?side1 ?side2 A3.out).mono ?_); (case side1 => repeat (first | exact HR1.out | (with_reducible refine Kd.C_alloc ?_ _) | (with_reducible refine Kd.C_drewN ?_ _) | (with_reducible refine Kd.C_drew ?_))); (case side2 => exact HC1.out); rintro e w9 ⟨rfl, hb⟩; refine ⟨_, rfl, ?_⟩; have n0_ := Aside0.mk (below_step (by repeat (first | (with_reducible first | exact HB.out | apply below_alloc | apply pw_below_drewN | apply below_drew1) | exact HB.out)) hb); clear HB; have HB := n0_; clear n0_; (try clear hb); (try clear hb2); (try clear hk); (try clear hi)) | ((with_reducible refine gate_callee (f := 57) rfl ?_); refine goesL_ (some 21) rfl rfl Try.func57 (by kernel_rfl) rfl #[.int .u64 a0, .int .i64 (l1.length : Int)] rfl (by (try simp only [List.map_toArray, List.map_cons, List.map_nil]); first | done | rfl | (simp only [List.length_drop, List.length_take]; rfl)) ?_; (with_reducible refine (moraineref04_Fit.calls a0 (l1.length : Int) true _ A5.out).mono ?_); rintro e w' ⟨rfl, ⟨nd, rfl⟩⟩; refine ⟨_, rfl, ?_⟩) | ((with_reducible refine gate_callee (f := 58) rfl ?_); refine goesL_ (some 24) rfl rfl Try.func58 (by kernel_rfl) rfl #[.slice none 0 0, .int .u64 a0, .int .i64 8] rfl (by (try simp only [List.map_toArray, List.map_cons, List.map_nil]); first | done | rfl | (simp only [List.length_drop, List.length_take]; rfl)) ?_; (refine (moraineref04_fixed.calls k (fun k_ => some k_ = (.slice none 0 0 : Value).ownBlock) (.slice none 0 0) ([] : List Int) a0 8 t195 w _ ?side1 ?side2 A7.out).mono ?_); (case side1 => repeat (first | (with_reducible first | exact HB.out | apply below_alloc | apply pw_below_drewN | apply below_drew1) | exact HB.out)); (case side2 => exact Kd.R_nil _ _ _ _ _); rintro e w10 ⟨v196, rfl, ho0, hb, hkp⟩; refine ⟨_, rfl, ?_⟩; have n0_ := Aside0.mk (Kd.R_mono (ok' := fun k_ => True) ho0 (fun k_ hk_ => trivial)); have n1_ := Aside0.mk (hb); clear HB; have HO197 := n0_; have HB := n1_; clear n0_ n1_; (try clear hb); (try clear hkp); (try clear ho0); obtain ⟨Ao11, co11, eo11⟩ := Kd.R_slice HO197.out; subst eo11) | ((with_reducible refine gate_callee (f := 58) rfl ?_); refine goesL_ (some 28) rfl rfl Try.func58 (by kernel_rfl) rfl #[.slice Ao11 t195.length co11, .int .u64 (IntKind.u64.wrap ((l1.length : Int))), .int .i64 4] rfl (by (try simp only [List.map_toArray, List.map_cons, List.map_nil]); first | done | rfl | (simp only [List.length_drop, List.length_take]; rfl)) ?_; (with_reducible refine (moraineref04_fixed.calls k (fun k_ => some k_ = (.slice Ao11 t195.length co11 : Value).ownBlock) (.slice Ao11 t195.length co11) t195 (IntKind.u64.wrap ((l1.length : Int))) 4 t198 w _ ?side1 ?side2 A8.out).mono ?_); (case side1 => repeat (first | (with_reducible first | exact HB.out | apply below_alloc | apply pw_below_drewN | apply below_drew1) | exact HB.out)); (case side2 => exact Kd.R_tight rfl HO197.out); rintro e w12 ⟨v199, rfl, ho0, hb, hkp⟩; refine ⟨_, rfl, ?_⟩; have n0_ := Aside0.mk (Kd.R_mono (ok' := fun k_ => True) ho0 (fun k_ hk_ => trivial)); have n1_ := Aside0.mk (hb); clear HB; clear HO197; have HO200 := n0_; have HB := n1_; clear n0_ n1_; (try clear hb); (try clear hkp); (try clear ho0)))
      go_loopg [8, 9] k (fun kq v8 v9 w' => ∃ (x8_1 : List Int) (x9_1 : Int), v9 = .int .i64 x9_1 ∧ Aside0 (moraineref04_Encode.l0 kq l1 x8_1 x9_1 = some (r1, r2)) ∧ Aside0 (kq ≤ k) ∧ Aside0 (Kd.R (Kd.int .u8) 5 w' w.heap.size (fun _ => True) v8 x8_1) ∧ Aside0 (Below w.heap.size w w'))
      case atStart => exact ⟨(t198), (0), (by first | rfl | (simp; done) | (simp [*]; done)), H', ⟨Nat.le_refl _⟩, ⟨by (with_reducible repeat (first | apply Kd.R_alloc | apply Kd.R_drewN | apply Kd.R_drew)); exact HO200.out⟩, ⟨by repeat (first | (with_reducible first | exact HB.out | apply below_alloc | apply pw_below_drewN | apply below_drew1) | exact HB.out)⟩⟩
      case round =>
        clear H'
        try clear c1
        try clear c2
        try clear p2
        try clear c4
        try clear c4b0
        try clear c4b1
        try clear c5
        try clear c6
        obtain ⟨x8_1, x9_1, rfl, HA, HK1, HO_8, HB⟩ := hrel
        cases gk with
        | zero => exact absurd HA.out (by simp [moraineref04_Encode.l0])
        | succ k1 =>
          have H := HA.out
          clear HA
          simp only [moraineref04_Encode.l0] at H
          by_cases c13 : x9_1 < (l1.length : Int)
          · rw [if_pos c13] at H
            have c13b0 : decide (x9_1 < (l1.length : Int)) = true := decide_eq_true c13
            clear c13
            by_cases c14 : 0 ≤ x9_1
            · rw [if_pos c14] at H
              have c14b0 : decide (0 ≤ x9_1) = true := decide_eq_true c14
              clear c14
              by_cases c15 : x8_1.length < 140737488355328
              · rw [if_pos c15] at H
                have LMc15 := Aside0.mk c15
                clear c15
                obtain ⟨y202, hy202⟩ : ∃ y_ : List Int, y_ = (x8_1 ++ [((rd_T65 l1 x9_1).f0) % 256]) := ⟨_, rfl⟩
                replace H : ((moraineref04_text.f k1 y202 ((rd_T65 l1 x9_1).f1)).bind fun t206 => (if ((rd_T65 l1 x9_1).f0) = 0 then (moraineref04_Encode.l0 k1 l1 t206 (wrap64 (x9_1 + 1))) else ((moraineref04_text.f k1 t206 ((rd_T65 l1 x9_1).f2)).bind fun t211 => (moraineref04_Encode.l0 k1 l1 t211 (wrap64 (x9_1 + 1)))))) = some (r1, r2) := by first | (rw [hy202]; with_reducible exact H) | (have H2_ := (Option.bind_some _ _).symm.trans H; rw [hy202]; with_reducible exact H2_) | (have H2_ := (Option.bind_some _ _).symm.trans H; with_reducible exact H2_) | with_reducible exact H | (rw [hy202]; exact H) | exact H
                have Ny202 := Aside0.mk hy202
                clear hy202
                replace H := Option.bind_eq_some_iff.mp H
                obtain ⟨t206, A160, H⟩ := H
                replace H : (if ((rd_T65 l1 x9_1).f0) = 0 then (moraineref04_Encode.l0 k1 l1 t206 (wrap64 (x9_1 + 1))) else ((moraineref04_text.f k1 t206 ((rd_T65 l1 x9_1).f2)).bind fun t211 => (moraineref04_Encode.l0 k1 l1 t211 (wrap64 (x9_1 + 1))))) = some (r1, r2) := H
                have A16 := Aside0.mk A160
                clear A160
                by_cases c17 : ((rd_T65 l1 x9_1).f0) = 0
                · rw [if_pos c17] at H
                  have c17b0 : (((rd_T65 l1 x9_1).f0) == 0) = true := beq_iff_eq.mpr c17
                  have c17b1 : (((rd_T65 l1 x9_1).f0) != 0) = false := bne_eq_false_iff_eq.mpr c17
                  clear c17
                  have H' := Aside0.mk H
                  clear H
                  have p201 : 0 ≤ (x9_1 : Int) := of_decide_eq_true (by first | (with_reducible assumption) | assumption)
                  have q201 : x9_1 < (l1.length : Int) := of_decide_eq_true (by first | (with_reducible assumption) | assumption)
                  obtain ⟨ad201, e201, hx201_0, hx201_1, hx201_2⟩ := at_T65 HR1.out x9_1 p201 q201
                  cases e201
                  replace hx201_0 := (HB.out.cell (World.block_lt_of_cell? w _ hx201_0)).trans hx201_0
                  replace hx201_1 := (HB.out.cell (World.block_lt_of_cell? w _ hx201_1)).trans hx201_1
                  replace hx201_2 := (HB.out.cell (World.block_lt_of_cell? w _ hx201_2)).trans hx201_2
                  replace p201 := eq_true p201
                  replace q201 := eq_true q201
                  go_wp2_with (first | ((with_reducible refine gate_builtin (b := .append) (xs := #[.tmp 35, .tmp 42]) rfl ?_); at_builtin; refine Kd.R_append (Kd.int .u8) (w0 := w) w.heap.size rfl (.tmp 35) (.tmp 42) 33 5 (.int .u8 0) 1 rfl Try.underlying33 info5 rfl (by decide) (by omega) u8 x8_1 (((rd_T65 l1 x9_1).f0) % 256) [.int .u8 (((rd_T65 l1 x9_1).f0) % 256)] (fun _ => True) (fun _ => False) rfl rfl ?aP (fun _ hk => hk.elim) ?aF ?aO ?aB ?aS ?aL ?_; (case aP => exact rfl); (case aB => exact (by repeat (first | (with_reducible first | exact HB.out | apply below_alloc | apply pw_below_drewN | apply below_drew1) | exact HB.out))); (case aF => exact (fun _ _ => trivial)); (case aO => exact (by (with_reducible repeat (first | apply Kd.R_alloc | apply Kd.R_drewN | apply Kd.R_drew)); exact HO_8.out)); (case aS => exact (below_size (by repeat (first | (with_reducible first | exact HB.out | apply below_alloc | apply pw_below_drewN | apply below_drew1) | exact HB.out)))); (case aL => have := LMc15.out; omega); intro v203 w18 ho hb hg hat; rw [← Ny202.out] at ho; have n0_ := Aside0.mk (hb); have n1_ := Aside0.mk (ho); clear HB; clear HO_8; have HB := n0_; have HO204 := n1_; clear n0_ n1_; clear ho hb hg hat; have p205 : 0 ≤ (x9_1 : Int) := of_decide_eq_true (by first | (with_reducible assumption) | assumption); have q205 : x9_1 < (l1.length : Int) := of_decide_eq_true (by first | (with_reducible assumption) | assumption); obtain ⟨ad205, e205, hx205_0, hx205_1, hx205_2⟩ := at_T65 HR1.out x9_1 p205 q205; obtain rfl : ad201 = ad205 := (by injection e205); replace hx205_0 := (HB.out.cell (World.block_lt_of_cell? w _ hx205_0)).trans hx205_0; replace hx205_1 := (HB.out.cell (World.block_lt_of_cell? w _ hx205_1)).trans hx205_1; replace hx205_2 := (HB.out.cell (World.block_lt_of_cell? w _ hx205_2)).trans hx205_2; replace p205 := eq_true p205; replace q205 := eq_true q205; obtain ⟨Ao19, co19, eo19⟩ := Kd.R_slice HO204.out; subst eo19) | ((with_reducible refine gate_callee (f := 59) rfl ?_); refine goesL_ (some 50) rfl rfl Try.func59 (by kernel_rfl) rfl #[.slice Ao19 y202.length co19, .string ((rd_T65 l1 x9_1).f1)] rfl (by (try simp only [List.map_toArray, List.map_cons, List.map_nil]); first | done | rfl | (simp only [List.length_drop, List.length_take]; rfl)) ?_; (with_reducible refine (moraineref04_text.calls k1 (fun k_ => some k_ = (.slice Ao19 y202.length co19 : Value).ownBlock) (.slice Ao19 y202.length co19) y202 ((rd_T65 l1 x9_1).f1) t206 w _ ?side1 ?side2 A16.out).mono ?_); (case side1 => repeat (first | (with_reducible first | exact HB.out | apply below_alloc | apply pw_below_drewN | apply below_drew1) | exact HB.out)); (case side2 => exact Kd.R_tight rfl HO204.out); rintro e w20 ⟨v207, rfl, ho0, hb, hkp⟩; refine ⟨_, rfl, ?_⟩; have n0_ := Aside0.mk (Kd.R_mono (ok' := fun k_ => True) ho0 (fun k_ hk_ => trivial)); have n1_ := Aside0.mk (hb); clear HB; clear HO204; have HO208 := n0_; have HB := n1_; clear n0_ n1_; (try clear hb); (try clear hkp); (try clear ho0); have p209 : 0 ≤ (x9_1 : Int) := of_decide_eq_true (by first | (with_reducible assumption) | assumption); have q209 : x9_1 < (l1.length : Int) := of_decide_eq_true (by first | (with_reducible assumption) | assumption); obtain ⟨ad209, e209, hx209_0, hx209_1, hx209_2⟩ := at_T65 HR1.out x9_1 p209 q209; obtain rfl : ad201 = ad209 := (by injection e209); replace hx209_0 := (HB.out.cell (World.block_lt_of_cell? w _ hx209_0)).trans hx209_0; replace hx209_1 := (HB.out.cell (World.block_lt_of_cell? w _ hx209_1)).trans hx209_1; replace hx209_2 := (HB.out.cell (World.block_lt_of_cell? w _ hx209_2)).trans hx209_2; replace p209 := eq_true p209; replace q209 := eq_true q209))
                  go_roundg k1
                  case measure => have := HK1.out; omega
                  case rel => exact ⟨(t206), (wrap64 (x9_1 + 1)), (by first | rfl | (simp; done) | (simp [*]; done)), H', ⟨by have := HK1.out; omega⟩, ⟨by (with_reducible repeat (first | apply Kd.R_alloc | apply Kd.R_drewN | apply Kd.R_drew)); exact HO208.out⟩, ⟨by repeat (first | (with_reducible first | exact HB.out | apply below_alloc | apply pw_below_drewN | apply below_drew1) | exact HB.out)⟩⟩
                · rw [if_neg c17] at H
                  have c17b0 : (((rd_T65 l1 x9_1).f0) == 0) = false := beq_eq_false_iff_ne.mpr c17
                  have c17b1 : (((rd_T65 l1 x9_1).f0) != 0) = true := bne_iff_ne.mpr c17
                  replace H := Option.bind_eq_some_iff.mp H
                  obtain ⟨t211, A210, H⟩ := H
                  replace H : (moraineref04_Encode.l0 k1 l1 t211 (wrap64 (x9_1 + 1))) = some (r1, r2) := H
                  have A21 := Aside0.mk A210
                  clear A210
                  have H' := Aside0.mk H
                  clear H
                  have p201 : 0 ≤ (x9_1 : Int) := of_decide_eq_true (by first | (with_reducible assumption) | assumption)
                  have q201 : x9_1 < (l1.length : Int) := of_decide_eq_true (by first | (with_reducible assumption) | assumption)
                  obtain ⟨ad201, e201, hx201_0, hx201_1, hx201_2⟩ := at_T65 HR1.out x9_1 p201 q201
                  cases e201
                  replace hx201_0 := (HB.out.cell (World.block_lt_of_cell? w _ hx201_0)).trans hx201_0
                  replace hx201_1 := (HB.out.cell (World.block_lt_of_cell? w _ hx201_1)).trans hx201_1
                  replace hx201_2 := (HB.out.cell (World.block_lt_of_cell? w _ hx201_2)).trans hx201_2
                  replace p201 := eq_true p201
                  replace q201 := eq_true q201
                  go_wp2_with (first | ((with_reducible refine gate_builtin (b := .append) (xs := #[.tmp 35, .tmp 42]) rfl ?_); at_builtin; refine Kd.R_append (Kd.int .u8) (w0 := w) w.heap.size rfl (.tmp 35) (.tmp 42) 33 5 (.int .u8 0) 1 rfl Try.underlying33 info5 rfl (by decide) (by omega) u8 x8_1 (((rd_T65 l1 x9_1).f0) % 256) [.int .u8 (((rd_T65 l1 x9_1).f0) % 256)] (fun _ => True) (fun _ => False) rfl rfl ?aP (fun _ hk => hk.elim) ?aF ?aO ?aB ?aS ?aL ?_; (case aP => exact rfl); (case aB => exact (by repeat (first | (with_reducible first | exact HB.out | apply below_alloc | apply pw_below_drewN | apply below_drew1) | exact HB.out))); (case aF => exact (fun _ _ => trivial)); (case aO => exact (by (with_reducible repeat (first | apply Kd.R_alloc | apply Kd.R_drewN | apply Kd.R_drew)); exact HO_8.out)); (case aS => exact (below_size (by repeat (first | (with_reducible first | exact HB.out | apply below_alloc | apply pw_below_drewN | apply below_drew1) | exact HB.out)))); (case aL => have := LMc15.out; omega); intro v203 w22 ho hb hg hat; rw [← Ny202.out] at ho; have n0_ := Aside0.mk (hb); have n1_ := Aside0.mk (ho); clear HB; clear HO_8; have HB := n0_; have HO204 := n1_; clear n0_ n1_; clear ho hb hg hat; have p205 : 0 ≤ (x9_1 : Int) := of_decide_eq_true (by first | (with_reducible assumption) | assumption); have q205 : x9_1 < (l1.length : Int) := of_decide_eq_true (by first | (with_reducible assumption) | assumption); obtain ⟨ad205, e205, hx205_0, hx205_1, hx205_2⟩ := at_T65 HR1.out x9_1 p205 q205; obtain rfl : ad201 = ad205 := (by injection e205); replace hx205_0 := (HB.out.cell (World.block_lt_of_cell? w _ hx205_0)).trans hx205_0; replace hx205_1 := (HB.out.cell (World.block_lt_of_cell? w _ hx205_1)).trans hx205_1; replace hx205_2 := (HB.out.cell (World.block_lt_of_cell? w _ hx205_2)).trans hx205_2; replace p205 := eq_true p205; replace q205 := eq_true q205; obtain ⟨Ao23, co23, eo23⟩ := Kd.R_slice HO204.out; subst eo23) | ((with_reducible refine gate_callee (f := 59) rfl ?_); refine goesL_ (some 50) rfl rfl Try.func59 (by kernel_rfl) rfl #[.slice Ao23 y202.length co23, .string ((rd_T65 l1 x9_1).f1)] rfl (by (try simp only [List.map_toArray, List.map_cons, List.map_nil]); first | done | rfl | (simp only [List.length_drop, List.length_take]; rfl)) ?_; (with_reducible refine (moraineref04_text.calls k1 (fun k_ => some k_ = (.slice Ao23 y202.length co23 : Value).ownBlock) (.slice Ao23 y202.length co23) y202 ((rd_T65 l1 x9_1).f1) t206 w _ ?side1 ?side2 A16.out).mono ?_); (case side1 => repeat (first | (with_reducible first | exact HB.out | apply below_alloc | apply pw_below_drewN | apply below_drew1) | exact HB.out)); (case side2 => exact Kd.R_tight rfl HO204.out); rintro e w24 ⟨v207, rfl, ho0, hb, hkp⟩; refine ⟨_, rfl, ?_⟩; have n0_ := Aside0.mk (Kd.R_mono (ok' := fun k_ => True) ho0 (fun k_ hk_ => trivial)); have n1_ := Aside0.mk (hb); clear HB; clear HO204; have HO208 := n0_; have HB := n1_; clear n0_ n1_; (try clear hb); (try clear hkp); (try clear ho0); have p209 : 0 ≤ (x9_1 : Int) := of_decide_eq_true (by first | (with_reducible assumption) | assumption); have q209 : x9_1 < (l1.length : Int) := of_decide_eq_true (by first | (with_reducible assumption) | assumption); obtain ⟨ad209, e209, hx209_0, hx209_1, hx209_2⟩ := at_T65 HR1.out x9_1 p209 q209; obtain rfl : ad201 = ad209 := (by injection e209); replace hx209_0 := (HB.out.cell (World.block_lt_of_cell? w _ hx209_0)).trans hx209_0; replace hx209_1 := (HB.out.cell (World.block_lt_of_cell? w _ hx209_1)).trans hx209_1; replace hx209_2 := (HB.out.cell (World.block_lt_of_cell? w _ hx209_2)).trans hx209_2; replace p209 := eq_true p209; replace q209 := eq_true q209; have p210 : 0 ≤ (x9_1 : Int) := of_decide_eq_true (by first | (with_reducible assumption) | assumption); have q210 : x9_1 < (l1.length : Int) := of_decide_eq_true (by first | (with_reducible assumption) | assumption); obtain ⟨ad210, e210, hx210_0, hx210_1, hx210_2⟩ := at_T65 HR1.out x9_1 p210 q210; obtain rfl : ad201 = ad210 := (by injection e210); replace hx210_0 := (HB.out.cell (World.block_lt_of_cell? w _ hx210_0)).trans hx210_0; replace hx210_1 := (HB.out.cell (World.block_lt_of_cell? w _ hx210_1)).trans hx210_1; replace hx210_2 := (HB.out.cell (World.block_lt_of_cell? w _ hx210_2)).trans hx210_2; replace p210 := eq_true p210; replace q210 := eq_true q210; obtain ⟨Ao25, co25, eo25⟩ := Kd.R_slice HO208.out; subst eo25) | ((with_reducible refine gate_callee (f := 59) rfl ?_); refine goesL_ (some 63) rfl rfl Try.func59 (by kernel_rfl) rfl #[.slice Ao25 t206.length co25, .string ((rd_T65 l1 x9_1).f2)] rfl (by (try simp only [List.map_toArray, List.map_cons, List.map_nil]); first | done | rfl | (simp only [List.length_drop, List.length_take]; rfl)) ?_; (with_reducible refine (moraineref04_text.calls k1 (fun k_ => some k_ = (.slice Ao25 t206.length co25 : Value).ownBlock) (.slice Ao25 t206.length co25) t206 ((rd_T65 l1 x9_1).f2) t211 w _ ?side1 ?side2 A21.out).mono ?_); (case side1 => repeat (first | (with_reducible first | exact HB.out | apply below_alloc | apply pw_below_drewN | apply below_drew1) | exact HB.out)); (case side2 => exact Kd.R_tight rfl HO208.out); rintro e w26 ⟨v212, rfl, ho0, hb, hkp⟩; refine ⟨_, rfl, ?_⟩; have n0_ := Aside0.mk (Kd.R_mono (ok' := fun k_ => True) ho0 (fun k_ hk_ => trivial)); have n1_ := Aside0.mk (hb); clear HB; clear HO208; have HO213 := n0_; have HB := n1_; clear n0_ n1_; (try clear hb); (try clear hkp); (try clear ho0)))
                  go_roundg k1
                  case measure => have := HK1.out; omega
                  case rel => exact ⟨(t211), (wrap64 (x9_1 + 1)), (by first | rfl | (simp; done) | (simp [*]; done)), H', ⟨by have := HK1.out; omega⟩, ⟨by (with_reducible repeat (first | apply Kd.R_alloc | apply Kd.R_drewN | apply Kd.R_drew)); exact HO213.out⟩, ⟨by repeat (first | (with_reducible first | exact HB.out | apply below_alloc | apply pw_below_drewN | apply below_drew1) | exact HB.out)⟩⟩
              · rw [if_neg c15] at H
                exact absurd H (by simp)
            · rw [if_neg c14] at H
              exact absurd H (by simp)
          · rw [if_neg c13] at H
            have c13b0 : decide (x9_1 < (l1.length : Int)) = false := decide_eq_false c13
            clear c13
            simp only [Option.some.injEq, Prod.mk.injEq] at H
            obtain ⟨rfl, rfl⟩ := H
            go_wp2
            go_ret2
            exact ⟨_, by first | rfl | (simp [errW_none, errW_some] <;> rfl) | (simp [*, errW_none, errW_some] <;> rfl), by (with_reducible repeat (first | apply Kd.R_alloc | apply Kd.R_drewN | apply Kd.R_drew)); exact HO_8.out, by repeat (first | (with_reducible first | exact HB.out | apply below_alloc | apply pw_below_drewN | apply below_drew1) | exact HB.out)⟩
    · replace c6 := Bool.eq_false_iff.mpr c6
      subst c6
      have H1 : (some (([] : List Int), 42)) = some (r1, r2) := by rw [if_neg (show ¬ (false = true) by decide)] at H; exact H
      clear H
      have H := H1
      clear H1
      simp only [Option.some.injEq, Prod.mk.injEq] at H
      obtain ⟨rfl, rfl⟩ := H
      go_enter Try.func22, Try.ntmps22
      go_wp2_with (first | ((with_reducible refine gate_callee (f := 17) rfl ?_); refine goesL_ (some 12) rfl rfl Try.func17 (by kernel_rfl) rfl #[.slice A1 l1.length c1] rfl (by (try simp only [List.map_toArray, List.map_cons, List.map_nil]); first | done | rfl | (simp only [List.length_drop, List.length_take]; rfl)) ?_; (with_reducible refine (moraineref04_Check.calls k _ _ l1 t192 t193 _ ?side1 ?side2 A3.out).mono ?_); (case side1 => repeat (first | exact HR1.out | (with_reducible refine Kd.C_alloc ?_ _) | (with_reducible refine Kd.C_drewN ?_ _) | (with_reducible refine Kd.C_drew ?_))); (case side2 => exact HC1.out); rintro e w27 ⟨rfl, hb⟩; refine ⟨_, rfl, ?_⟩; have n0_ := Aside0.mk (below_step (by repeat (first | (with_reducible first | exact HB.out | apply below_alloc | apply pw_below_drewN | apply below_drew1) | exact HB.out)) hb); clear HB; have HB := n0_; clear n0_; (try clear hb); (try clear hb2); (try clear hk); (try clear hi)) | ((with_reducible refine gate_callee (f := 57) rfl ?_); refine goesL_ (some 21) rfl rfl Try.func57 (by kernel_rfl) rfl #[.int .u64 a0, .int .i64 (l1.length : Int)] rfl (by (try simp only [List.map_toArray, List.map_cons, List.map_nil]); first | done | rfl | (simp only [List.length_drop, List.length_take]; rfl)) ?_; (with_reducible refine (moraineref04_Fit.calls a0 (l1.length : Int) false _ A5.out).mono ?_); rintro e w' ⟨rfl, ⟨nd, rfl⟩⟩; refine ⟨_, rfl, ?_⟩))
      go_ret2
      exact ⟨_, by first | rfl | (simp [errW_none, errW_some] <;> rfl) | (simp [*, errW_none, errW_some] <;> rfl), by first | exact Kd.R_nil _ _ _ _ _ | exact Kd.N_nil _ _ _ _ _ | exact Kd.V_nil _ _ _ _ _ | exact Kd.Q_nil _ _ _ _ _ | exact Kd.S_nil _ _ _ _ _, by repeat (first | (with_reducible first | exact HB.out | apply below_alloc | apply pw_below_drewN | apply below_drew1) | exact HB.out)⟩
  · rw [if_neg c4] at H
    have c4b0 : (t193 == 0) = false := beq_eq_false_iff_ne.mpr c4
    have c4b1 : (t193 != 0) = true := bne_iff_ne.mpr c4
    simp only [Option.some.injEq, Prod.mk.injEq] at H
    obtain ⟨rfl, rfl⟩ := H
    go_enter Try.func22, Try.ntmps22
    go_wp2_with (first | ((with_reducible refine gate_callee (f := 17) rfl ?_); refine goesL_ (some 12) rfl rfl Try.func17 (by kernel_rfl) rfl #[.slice A1 l1.length c1] rfl (by (try simp only [List.map_toArray, List.map_cons, List.map_nil]); first | done | rfl | (simp only [List.length_drop, List.length_take]; rfl)) ?_; (with_reducible refine (moraineref04_Check.calls k _ _ l1 t192 t193 _ ?side1 ?side2 A3.out).mono ?_); (case side1 => repeat (first | exact HR1.out | (with_reducible refine Kd.C_alloc ?_ _) | (with_reducible refine Kd.C_drewN ?_ _) | (with_reducible refine Kd.C_drew ?_))); (case side2 => exact HC1.out); rintro e w28 ⟨rfl, hb⟩; refine ⟨_, rfl, ?_⟩; have n0_ := Aside0.mk (below_step (by repeat (first | (with_reducible first | exact HB.out | apply below_alloc | apply pw_below_drewN | apply below_drew1) | exact HB.out)) hb); clear HB; have HB := n0_; clear n0_; (try clear hb); (try clear hb2); (try clear hk); (try clear hi)))
    go_ret2
    exact ⟨_, by first | rfl | (simp [errW_none, errW_some] <;> rfl) | (simp [*, errW_none, errW_some] <;> rfl), by first | exact Kd.R_nil _ _ _ _ _ | exact Kd.N_nil _ _ _ _ _ | exact Kd.V_nil _ _ _ _ _ | exact Kd.Q_nil _ _ _ _ _ | exact Kd.S_nil _ _ _ _ _, by repeat (first | (with_reducible first | exact HB.out | apply below_alloc | apply pw_below_drewN | apply below_drew1) | exact HB.out)⟩

end Go.Proofs.Ythkooncibfkepaa.G

/- Contracts typed by hand: plain laws of a batch's bytes: what Encode of the program and of the reference answer -/
namespace Go.Proofs.Ythkooncibfkepaa.G
open Go.RowKit Go.Proofs.YthkooncibfkepaaW.PrintWords Go.Proofs.YthkooncibfkepaaW.PrintLast Go.Proofs.YthkooncibfkepaaW.PrintMore
attribute [local go_sem] max2_int min2_int max_two min_two max_three min_three max_four min_four
set_option linter.unusedVariables false
set_option linter.unusedSimpArgs false

/-! plain laws of a batch's bytes: what Encode of the program and of the reference answer -/
def encOp (x : Op04) : List Int := if x.f0 = 0 then (x.f0 % 256) :: encText x.f1 else ((x.f0 % 256) :: encText x.f1) ++ encText x.f2
def encOps : List Op04 → List Int
  | [] => []
  | x :: r => encOp x ++ encOps r
def encB (seq : Int) (l : List Op04) : List Int := fixF 8 seq ++ fixF 4 (l.length : Int) ++ encOps l
def fitB (seq : Int) (n : Nat) : Bool := decide (seq ≤ 72057594037927935) && (decide (n = 0) || decide ((n : Int) - 1 ≤ 72057594037927935 - seq))
def encR (seq : Int) (l : List Op04) : List Int × Int := if (chk l).2 = 0 then (if fitB seq l.length = true then (encB seq l, 0) else ([], 42)) else ([], (chk l).2)
theorem encText_tlen (s : ByteArray) : (encText s).length = tlen s := by unfold encText tlen; rw [List.length_append, bytesOf_length]
theorem encOp_len (x : Op04) : (encOp x).length = szN x := by
  unfold encOp szN
  split
  · rw [List.length_cons, encText_tlen]; omega
  · rw [List.length_append, List.length_cons, encText_tlen, encText_tlen]; omega
theorem encOps_len : ∀ (l : List Op04), (encOps l).length = totN l
  | [] => rfl
  | x :: r => by simp only [encOps, totN, List.length_append, encOp_len, encOps_len r]
theorem encB_len (seq : Int) (l : List Op04) : (encB seq l).length = 12 + totN l := by
  unfold encB
  rw [List.length_append, List.length_append, fixF_len, fixF_len, encOps_len]
theorem encOps_append : ∀ (a b : List Op04), encOps (a ++ b) = encOps a ++ encOps b
  | [], b => rfl
  | x :: r, b => by simp only [List.cons_append, encOps, encOps_append r b, List.append_assoc]
theorem encOp_bytes (x : Op04) : Bytes (encOp x) := by
  have h1 : Bytes ((x.f0 % 256) :: encText x.f1) := by
    intro y hy
    rcases List.mem_cons.1 hy with rfl | hy
    · omega
    · exact encText_bytes _ y hy
  unfold encOp
  split
  · exact h1
  · exact h1.append (encText_bytes _)
theorem encOps_bytes : ∀ (l : List Op04), Bytes (encOps l)
  | [] => by intro x hx; simp [encOps] at hx
  | x :: r => (encOp_bytes x).append (encOps_bytes r)
theorem encB_bytes (seq : Int) (l : List Op04) : Bytes (encB seq l) := ((fixF_bytes 8 seq).append (fixF_bytes 4 _)).append (encOps_bytes l)
theorem fit_eq (seq : Int) (n : Nat) (h0 : 0 ≤ seq) (hn : n ≤ 1048576) : batch_fit.f seq (n : Int) = some (fitB seq n) := by
  unfold batch_fit.f fitB
  by_cases h1 : seq ≤ 72057594037927935
  · rw [if_pos h1, decide_eq_true h1]
    by_cases h2 : (n : Int) < 1
    · rw [if_pos h2, decide_eq_true (show n = 0 by omega)]; rfl
    · rw [if_neg h2, decide_eq_false (show ¬ n = 0 by omega)]
      have w1 : IntKind.u64.wrap (wrap64 ((n : Int) - 1)) = (n : Int) - 1 := by unfold wrap64; rw [Go.IntKind.wrap_u64]; omega
      have w2 : IntKind.u64.wrap (72057594037927935 - seq) = 72057594037927935 - seq := by rw [Go.IntKind.wrap_u64]; omega
      rw [w1, w2]
      simp
  · rw [if_neg h1, decide_eq_false h1]; rfl
theorem Fit_eq (seq : Int) (n : Nat) (h0 : 0 ≤ seq) (hn : n ≤ 1048576) : moraineref04_Fit.f seq (n : Int) = some (fitB seq n) := by
  unfold moraineref04_Fit.f fitB
  by_cases h1 : seq ≤ 72057594037927935
  · rw [if_pos h1, decide_eq_true h1]
    by_cases h2 : (n : Int) = 0
    · rw [if_pos h2, decide_eq_true (show n = 0 by omega)]; rfl
    · rw [if_neg h2, decide_eq_false (show ¬ n = 0 by omega)]
      have w1 : IntKind.u64.wrap (wrap64 ((n : Int) - 1)) = (n : Int) - 1 := by unfold wrap64; rw [Go.IntKind.wrap_u64]; omega
      have w2 : IntKind.u64.wrap (72057594037927935 - seq) = 72057594037927935 - seq := by rw [Go.IntKind.wrap_u64]; omega
      rw [w1, w2]
      simp
  · rw [if_neg h1, decide_eq_false h1]; rfl
theorem encode_loop (l : List Op04) (hs : Sane l) (k0 : Nat) (hk0 : 10 ≤ k0) : ∀ (d i k : Nat) (acc : List Int), i + d = l.length → acc.length ≤ 12 + i * 2097173 → k = k0 + d + 1 → batch_Encode.l0 k acc l (l.length : Int) (i : Int) = some (acc ++ encOps (l.drop i), 0)
  | 0, i, k, acc, hi, _, hk => by
    subst hk
    rw [batch_Encode.l0, if_neg (by omega), List.drop_eq_nil_of_le (by omega)]
    simp [encOps]
  | d + 1, i, k, acc, hi, ha, hk => by
    subst hk
    have hlt : i < l.length := by omega
    have hd := drop_rdT l i hlt
    have hm : rd_T65 l (i : Int) ∈ l := by
      have : rd_T65 l (i : Int) ∈ l.drop i := by rw [hd]; exact List.mem_cons_self
      exact List.mem_of_mem_drop this
    have hx := hs.2 _ hm
    have t1 := tlen_le hx.1
    have t2 := tlen_le hx.2
    have h2 := hs.1
    have w : wrap64 ((i : Int) + 1) = ((i + 1 : Nat) : Int) := by unfold wrap64; omega
    have c1 : ((i : Int) < (l.length : Int)) := by omega
    have c2 : 0 ≤ (i : Int) := by omega
    rw [show k0 + (d + 1) + 1 = (k0 + d + 1) + 1 by omega, batch_Encode.l0, if_pos c1, if_pos c2, if_pos c1, if_pos (by omega), w, hd]
    simp only [encOps]
    generalize rd_T65 l (i : Int) = x at *
    rw [Option.bind_some, PutText_eq _ [] x.f1 (by omega) (by simp; omega), Option.bind_some, List.nil_append, if_pos (by rw [List.length_append, encText_tlen]; simp; omega), Option.bind_some]
    unfold encOp
    by_cases h0 : x.f0 = 0
    · rw [if_pos h0, if_pos h0, encode_loop l hs k0 hk0 d (i + 1) _ _ (by omega) (by rw [List.length_append, List.length_append, encText_tlen]; simp only [List.length_cons, List.length_nil]; omega) rfl]
      simp [List.append_assoc]
    · rw [if_neg h0, if_neg h0, PutText_eq _ [] x.f2 (by omega) (by simp; omega), Option.bind_some, List.nil_append, if_pos (by rw [List.length_append, List.length_append, encText_tlen, encText_tlen]; simp only [List.length_cons, List.length_nil]; omega),
        encode_loop l hs k0 hk0 d (i + 1) _ _ (by omega) (by rw [List.length_append, List.length_append, List.length_append, encText_tlen, encText_tlen]; simp only [List.length_cons, List.length_nil]; omega) rfl]
      simp [List.append_assoc]
theorem encode_eq (k : Nat) (seq : Int) (l : List Op04) (h0 : 0 ≤ seq) (hs : Sane l) (hk : 11 + l.length ≤ k) : batch_Encode.f k seq l = some (encR seq l) := by
  have hl := encode_loop l hs 10 (by omega) l.length 0 (11 + l.length) (fixF 8 seq ++ fixF 4 (l.length : Int)) (by omega) (by rw [List.length_append, fixF_len, fixF_len]; omega) (by omega)
  have hl' : batch_Encode.l0 k (fixF 8 seq ++ fixF 4 (l.length : Int)) l (l.length : Int) 0 = _ := at_rounds (g := fun k => batch_Encode.l0 k (fixF 8 seq ++ fixF 4 (l.length : Int)) l (l.length : Int) 0) (fun k => batch_Encode.mono_l k _ _ _ _) (by omega) hl
  have h2 := hs.1
  unfold batch_Encode.f encR
  rw [check_eq k l hs hk, Option.bind_some, fit_eq seq _ h0 h2, Option.bind_some, PutFixed64_eq k [] seq (by omega) (by simp), Option.bind_some, List.nil_append, show ((l.length : Int)) % 4294967296 = (l.length : Int) by omega,
    PutFixed32_eq k _ _ (by omega) (by omega) (by omega) (by rw [fixF_len]; omega), Option.bind_some, hl', List.drop_zero]
  unfold encB
  split <;> (try split) <;> rfl
theorem reftext_loop (s : ByteArray) : ∀ (f k : Nat) (x0 : List Int) (v : Int), Small f v → v ≤ 9223372036854775807 → f + 1 ≤ k → x0.length + f + 1 + s.size < 140737488355328 → moraineref04_text.l0 k x0 s v = some (x0 ++ (encF f v ++ bytesOf s)) := by
  intro f
  induction f with
  | zero =>
    intro k x0 v h hv9 hk hl
    obtain ⟨k, rfl⟩ : ∃ m, k = m + 1 := ⟨k - 1, by omega⟩
    have hs := small_zero h
    simp only [moraineref04_text.l0]
    rw [if_neg (show ¬ v ≥ 128 by omega), if_pos (by omega), Option.bind_some, if_pos (by simp; omega)]
    simp [encF]
  | succ f ih =>
    intro k x0 v h hv9 hk hl
    obtain ⟨k, rfl⟩ : ∃ m, k = m + 1 := ⟨k - 1, by omega⟩
    have h0 := h.1
    have w2 : wrap64 (Int.tdiv v 128) = v / 128 := by rw [Int.tdiv_eq_ediv_of_nonneg h0]; unfold wrap64; omega
    have w3 : (wrap64 (Int.tmod v 128 + 128)) % 256 = v % 128 + 128 := by rw [Int.tmod_eq_emod_of_nonneg h0]; unfold wrap64; omega
    simp only [moraineref04_text.l0, encF, w2, w3]
    by_cases hv : v ≥ 128
    · rw [if_pos hv, if_pos (by omega), if_pos (show 128 ≤ v from hv), ih k _ _ (small_div h) (by omega) (by omega) (by simp; omega)]
      simp
    · rw [if_neg hv, if_pos (by omega), if_neg (show ¬ 128 ≤ v from hv), Option.bind_some, if_pos (by simp; omega)]
      simp
theorem reftext_eq (k : Nat) (l : List Int) (s : ByteArray) (hk : 10 ≤ k) (hl : l.length + s.size ≤ 140737488355200) : moraineref04_text.f k l s = some (l ++ encText s) := by
  unfold moraineref04_text.f encText enc
  exact reftext_loop s 9 k l _ (small9 _ (by omega) (by omega)) (by omega) (by omega) (by omega)
theorem reffixed_loop (v : Int) (h0 : 0 ≤ v) : ∀ (d i n k : Nat) (x0 : List Int), i + d = n → n ≤ 8 → d + 1 ≤ k → x0.length + d < 140737488355328 → moraineref04_fixed.l0 k x0 v (n : Int) (i : Int) = some (x0 ++ fixF d (v / 2 ^ (8 * i)))
  | 0, i, n, k, x0, hi, hn, hk, hl => by
    obtain ⟨k, rfl⟩ : ∃ m, k = m + 1 := ⟨k - 1, by omega⟩
    rw [moraineref04_fixed.l0, if_neg (by omega)]
    simp [fixF]
  | d + 1, i, n, k, x0, hi, hn, hk, hl => by
    obtain ⟨k, rfl⟩ : ∃ m, k = m + 1 := ⟨k - 1, by omega⟩
    have w : wrap64 ((i : Int) + 1) = ((i + 1 : Nat) : Int) := by unfold wrap64; omega
    have w8 : wrap64 (8 * (i : Int)) = ((8 * i : Nat) : Int) := by unfold wrap64; omega
    have e1 : shr .u64 v ((8 * i : Nat) : Int) = v / 2 ^ (8 * i) := by
      unfold shr
      rw [Int.toNat_natCast, Nat.min_eq_left (show 8 * i ≤ IntKind.u64.bits by simp [IntKind.bits]; omega)]
    have e2 : v / 2 ^ (8 * (i + 1)) = v / 2 ^ (8 * i) / 256 := by
      rw [show 8 * (i + 1) = 8 * i + 8 by omega, Int.pow_add, ← Int.ediv_ediv_of_nonneg (Int.le_of_lt (Int.pow_pos (by decide)))]
      rfl
    rw [moraineref04_fixed.l0, w, w8, e1, if_pos (by omega), if_pos (by omega), if_pos (by omega), reffixed_loop v h0 d (i + 1) n k _ (by omega) hn (by omega) (by simp; omega), e2]
    simp [fixF]
theorem reffixed_eq (k : Nat) (l : List Int) (v : Int) (n : Nat) (h0 : 0 ≤ v) (hn : n ≤ 8) (hk : 9 ≤ k) (hl : l.length ≤ 140737488355200) : moraineref04_fixed.f k l v (n : Int) = some (l ++ fixF n v) := by
  unfold moraineref04_fixed.f
  have := reffixed_loop v h0 n 0 n k l (by omega) hn (by omega) (by omega)
  rw [show v / 2 ^ (8 * 0) = v by simp] at this
  exact this
theorem refencode_loop (l : List Op04) (hs : Sane l) (k0 : Nat) (hk0 : 10 ≤ k0) : ∀ (d i k : Nat) (acc : List Int), i + d = l.length → acc.length ≤ 12 + i * 2097173 → k = k0 + d + 1 → moraineref04_Encode.l0 k l acc (i : Int) = some (acc ++ encOps (l.drop i), 0)
  | 0, i, k, acc, hi, _, hk => by
    subst hk
    rw [moraineref04_Encode.l0, if_neg (by omega), List.drop_eq_nil_of_le (by omega)]
    simp [encOps]
  | d + 1, i, k, acc, hi, ha, hk => by
    subst hk
    have hlt : i < l.length := by omega
    have hd := drop_rdT l i hlt
    have hm : rd_T65 l (i : Int) ∈ l := by
      have : rd_T65 l (i : Int) ∈ l.drop i := by rw [hd]; exact List.mem_cons_self
      exact List.mem_of_mem_drop this
    have hx := hs.2 _ hm
    have t1 := tlen_le hx.1
    have t2 := tlen_le hx.2
    have h2 := hs.1
    have w : wrap64 ((i : Int) + 1) = ((i + 1 : Nat) : Int) := by unfold wrap64; omega
    have c1 : ((i : Int) < (l.length : Int)) := by omega
    have c2 : 0 ≤ (i : Int) := by omega
    rw [show k0 + (d + 1) + 1 = (k0 + d + 1) + 1 by omega, moraineref04_Encode.l0, if_pos c1, if_pos c2, if_pos (by omega), w, hd]
    simp only [encOps]
    generalize rd_T65 l (i : Int) = x at *
    rw [reftext_eq _ _ x.f1 (by omega) (by simp; omega), Option.bind_some]
    unfold encOp
    by_cases h0 : x.f0 = 0
    · rw [if_pos h0, if_pos h0, refencode_loop l hs k0 hk0 d (i + 1) _ _ (by omega) (by rw [List.length_append, List.length_append, encText_tlen]; simp only [List.length_cons, List.length_nil]; omega) rfl]
      simp [List.append_assoc]
    · rw [if_neg h0, if_neg h0, reftext_eq _ _ x.f2 (by omega) (by rw [List.length_append, List.length_append, encText_tlen]; simp only [List.length_cons, List.length_nil]; omega), Option.bind_some,
        refencode_loop l hs k0 hk0 d (i + 1) _ _ (by omega) (by rw [List.length_append, List.length_append, List.length_append, encText_tlen, encText_tlen]; simp only [List.length_cons, List.length_nil]; omega) rfl]
      simp [List.append_assoc]
theorem refencode_eq (k : Nat) (seq : Int) (l : List Op04) (h0 : 0 ≤ seq) (hs : Sane l) (hk : 13 + 2 * l.length ≤ k) : moraineref04_Encode.f k seq l = some (encR seq l) := by
  have hl := refencode_loop l hs 10 (by omega) l.length 0 (11 + l.length) (fixF 8 seq ++ fixF 4 (l.length : Int)) (by omega) (by rw [List.length_append, fixF_len, fixF_len]; omega) (by omega)
  have hl' : moraineref04_Encode.l0 k l (fixF 8 seq ++ fixF 4 (l.length : Int)) 0 = _ := at_rounds (g := fun k => moraineref04_Encode.l0 k l (fixF 8 seq ++ fixF 4 (l.length : Int)) 0) (fun k => moraineref04_Encode.mono_l k _ _ _) (by omega) hl
  have h2 := hs.1
  have wl : IntKind.u64.wrap (l.length : Int) = (l.length : Int) := by rw [Go.IntKind.wrap_u64]; omega
  have e8 := reffixed_eq k [] seq 8 h0 (by omega) (by omega) (by simp)
  have e4 := reffixed_eq k (fixF 8 seq) (l.length : Int) 4 (by omega) (by omega) (by omega) (by rw [fixF_len]; omega)
  rw [List.nil_append] at e8
  unfold moraineref04_Encode.f encR
  rw [refcheck_eq k l hs hk, Option.bind_some, Fit_eq seq _ h0 h2, Option.bind_some, show (8 : Int) = ((8 : Nat) : Int) by rfl, e8, Option.bind_some, wl, show (4 : Int) = ((4 : Nat) : Int) by rfl, e4, Option.bind_some, hl', List.drop_zero]
  unfold encB
  split <;> (try split) <;> rfl

end Go.Proofs.Ythkooncibfkepaa.G
