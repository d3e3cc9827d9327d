/- Contracts of functions and plain laws, several texts of the session put together by its program. -/
import Derived.Test.YtppldgbgdgeegaaQ0
import Derived.Test.YtppldgbgdgeegaaProg
import Derived.Below
import Derived.Deep.Draws
import Derived.Deep.AppendLies
import Derived.Maps.AppendAt
import Derived.OwnWalk
import Derived.Laws.BytesArg
import Derived.Laws.MakeOwn
import Derived.Laws.OwnMore
import Derived.Deep.OwnRows
import Derived.Tactics
import Derived.Lib.ConvBytes
import Derived.Laws.Slices
import Derived.WalkKit
import Derived.KernelRfl
import Derived.RowKit3
import Derived.Deep.LoopGhost
import Derived.Deep.QuietTactic
import Derived.BigQuiet
import Derived.WideLaws
import Derived.Deep.DeepCutAuto
import Derived.Deep.CutBlock
import Derived.Deep.RegionHeld3
import Derived.Laws.Rows
import Derived.Lib.AppendStr
import Derived.ArgAppend
import Derived.Laws.IdiomCopy
import Derived.OrdersHeld
import Derived.Laws.BitsLemmas
import Derived.RowKit
import Derived.Test.YtppldgbgdgeegaaWWords
import Derived.Test.YtppldgbgdgeegaaWLast
import Derived.Test.YtppldgbgdgeegaaWTab
import Derived.Test.YtppldgbgdgeegaaWFour
import Derived.Test.YtppldgbgdgeegaaWQPut
import Derived.Test.YtppldgbgdgeegaaWApart
import Derived.Test.YtppldgbgdgeegaaWArr
import Derived.Test.YtppldgbgdgeegaaWZeros
import Derived.Test.YtppldgbgdgeegaaWFoot
import Derived.Test.YtppldgbgdgeegaaWKept
import Derived.Test.YtppldgbgdgeegaaWShare
import Derived.Test.YtppldgbgdgeegaaWN
import Derived.Test.YtppldgbgdgeegaaWFootNe
import Derived.Test.YtppldgbgdgeegaaWAt
import Derived.Test.YtppldgbgdgeegaaWEqStruct
import Derived.Test.YtppldgbgdgeegaaWRepsOne
import Derived.Test.YtppldgbgdgeegaaWInv
import Derived.Test.YtppldgbgdgeegaaWInvWords
import Derived.Test.YtppldgbgdgeegaaWGuard
import Derived.Test.YtppldgbgdgeegaaWNEv
import Derived.Test.YtppldgbgdgeegaaWMore
import Derived.Test.YtppldgbgdgeegaaQ3
import Derived.Carry
import Derived.Test.YtppldgbgdgeegaaQ2

/- Printed by the session's program over the kit's print, out of the translation: functions as plain Lean functions, and the proofs that the calls come to them. -/
namespace Go.Proofs.Ytppldgbgdgeegaa.G
open Go.RowKit Go.Proofs.YtppldgbgdgeegaaW.PrintWords Go.Proofs.YtppldgbgdgeegaaW.PrintLast Go.Proofs.YtppldgbgdgeegaaW.PrintMore
attribute [local go_sem] max2_int min2_int max_two min_two max_three min_three max_four min_four   -- for this text's walks alone
set_option linter.unusedVariables false
set_option linter.unusedSimpArgs false

/-! ### edit_Whole: function 6 -/
mutual
def edit_Whole.l0 : Nat → List (List (S36)) → Int → Int → Int → Int → Int → List (S43) → Option (Int × Int × Int × (List (S45)) × (List (S43)))
  | 0, _, _, _, _, _, _, _ => none
  | k + 1, x18, x19, x20, x103000, x103001, x103002, x103004 => if x20 < x19 then (if 0 ≤ x20 then (if x20 < (x18.length : Int) then (edit_Whole.l1 k x20 x18 x19 x20 (rd_L4 x18 x20) ((rd_L4 x18 x20).length : Int) 0 x103000 x103001 x103002 x103004) else (none)) else (none)) else (some (x103000, x103001, x103002, ([] : List (S45)), x103004))
def edit_Whole.l1 : Nat → Int → List (List (S36)) → Int → Int → List (S36) → Int → Int → Int → Int → Int → List (S43) → Option (Int × Int × Int × (List (S45)) × (List (S43)))
  | 0, _, _, _, _, _, _, _, _, _, _, _ => none
  | k + 1, x10, x18, x19, x20, x25, x26, x27, x103000, x103001, x103002, x103004 => if x27 < x26 then (if 0 ≤ x27 then (if x27 < (x25.length : Int) then (if x103004.length < 1954687338268 then (edit_Whole.l1 k x10 x18 x19 x20 x25 x26 (wrap64 (x27 + 1)) x103000 x103001 x103002 (x103004 ++ [(⟨x10, (⟨(rd_T36 x25 x27).f0, (rd_T36 x25 x27).f1, (rd_T36 x25 x27).f2, (rd_T36 x25 x27).f3, (rd_T36 x25 x27).f4, (rd_T36 x25 x27).f5⟩ : S36)⟩ : S43)])) else (none)) else (none)) else (none)) else (edit_Whole.l0 k x18 x19 (wrap64 (x20 + 1)) x103000 x103001 x103002 x103004)
end
def edit_Whole.f (k : Nat) (l0 : List (List (S36))) (a1 : Int) (a2 : Int) (a3 : Int) : Option (Int × Int × Int × (List (S45)) × (List (S43))) := edit_Whole.l0 k l0 (l0.length : Int) 0 a1 a2 a3 ([] : List (S43))
theorem edit_Whole.mono_l : ∀ k, (∀ y0 y1 y2 y3 y4 y5 y6, LeO (edit_Whole.l0 k y0 y1 y2 y3 y4 y5 y6) (edit_Whole.l0 (k + 1) y0 y1 y2 y3 y4 y5 y6)) ∧ (∀ y0 y1 y2 y3 y4 y5 y6 y7 y8 y9 y10, LeO (edit_Whole.l1 k y0 y1 y2 y3 y4 y5 y6 y7 y8 y9 y10) (edit_Whole.l1 (k + 1) y0 y1 y2 y3 y4 y5 y6 y7 y8 y9 y10))
  | 0 => ⟨fun _ _ _ _ _ _ _ r h => by simp [edit_Whole.l0] at h, fun _ _ _ _ _ _ _ _ _ _ _ r h => by simp [edit_Whole.l1] at h⟩
  | k + 1 => by
    obtain ⟨ih0, ih1⟩ := edit_Whole.mono_l k
    refine ⟨?_, ?_⟩
    · intro y0 y1 y2 y3 y4 y5 y6
      unfold edit_Whole.l0
      repeat' first
      | (with_reducible exact ih0 _ _ _ _ _ _ _)
      | (with_reducible exact ih1 _ _ _ _ _ _ _ _ _ _ _)
      | (with_reducible exact LeO.refl _)
      | (with_reducible exact LeO.none _)
      | (with_reducible refine LeO.ite ?_ ?_)
      | (with_reducible refine LeO.bind ?_ (fun _ => ?_))
      | exact ih0 _ _ _ _ _ _ _
      | exact ih1 _ _ _ _ _ _ _ _ _ _ _
      | exact LeO.none _
      | refine LeO.ite ?_ ?_
      | refine LeO.bind ?_ (fun _ => ?_)
    · intro y0 y1 y2 y3 y4 y5 y6 y7 y8 y9 y10
      unfold edit_Whole.l1
      repeat' first
      | (with_reducible exact ih0 _ _ _ _ _ _ _)
      | (with_reducible exact ih1 _ _ _ _ _ _ _ _ _ _ _)
      | (with_reducible exact LeO.refl _)
      | (with_reducible exact LeO.none _)
      | (with_reducible refine LeO.ite ?_ ?_)
      | (with_reducible refine LeO.bind ?_ (fun _ => ?_))
      | exact ih0 _ _ _ _ _ _ _
      | exact ih1 _ _ _ _ _ _ _ _ _ _ _
      | exact LeO.none _
      | refine LeO.ite ?_ ?_
      | refine LeO.bind ?_ (fun _ => ?_)
theorem edit_Whole.mono : ∀ a0 a1 a2 a3 k, LeO (edit_Whole.f k a0 a1 a2 a3) (edit_Whole.f (k + 1) a0 a1 a2 a3) := by
  intro a0 a1 a2 a3 k
  obtain ⟨ih0, ih1⟩ := edit_Whole.mono_l k
  unfold edit_Whole.f
  repeat' first
      | (with_reducible exact ih0 _ _ _ _ _ _ _)
      | (with_reducible exact ih1 _ _ _ _ _ _ _ _ _ _ _)
      | (with_reducible exact LeO.refl _)
      | (with_reducible exact LeO.none _)
      | (with_reducible refine LeO.ite ?_ ?_)
      | (with_reducible refine LeO.bind ?_ (fun _ => ?_))
      | exact ih0 _ _ _ _ _ _ _
      | exact ih1 _ _ _ _ _ _ _ _ _ _ _
      | exact LeO.none _
      | refine LeO.ite ?_ ?_
      | refine LeO.bind ?_ (fun _ => ?_)
set_option maxHeartbeats 8000000 in
set_option maxRecDepth 100000 in
theorem edit_Whole.calls (k : Nat) (A0 : Option Addr) (c0 : Nat) (l0 : List (List (S36))) (a1 : Int) (a2 : Int) (a3 : Int) (r1 : Int) (r2 : Int) (r3 : Int) (r4 : List (S45)) (r5 : List (S43)) (w : World) (hr0 : Kd.C (Kd.slice 36 k36) w A0 l0.length l0) (hc0 : l0.length ≤ c0) (h : edit_Whole.f k l0 a1 a2 a3 = some (r1, r2, r3, r4, r5)) :
    Calls Try.prog 6 #[.slice A0 l0.length c0, .int .i64 a1, .int .i64 a2, .int .u64 a3] w fun e w' => ∃ v3_ v4_ : Value, e = .returned (.agg #[.int .i64 r1, .int .i64 r2, .int .u64 r3, v3_, v4_]) ∧ Kd.R k45 45 w' w.heap.size (fun _ => True) v3_ r4 ∧ Kd.R k43 43 w' w.heap.size (fun _ => True) v4_ r5 ∧ Below w.heap.size w w' := by
  have hu31 := Try.underlying31
  have hu36 := Try.underlying36
  have hu43 := Try.underlying43
  have HR0 := Aside0.mk hr0
  have HC0 := Aside0.mk hc0
  clear hr0 hc0
  have HB := Aside0.mk (Below.refl w.heap.size w)
  have H : (edit_Whole.l0 k l0 (l0.length : Int) 0 a1 a2 a3 ([] : List (S43))) = some (r1, r2, r3, r4, r5) := h
  clear h
  have H' := Aside0.mk H
  clear H
  go_enter Try.func6, Try.ntmps6
  go_wp2_with (first | ((with_reducible refine gate_dst (N := 8) rfl ?_); refine box_event ?hg (N := 8) ?hd (cs := #[.int .i64 0, .int .i64 0, .int .u64 0, .slice none 0 0, .slice none 0 0]) (t := 31) ?hr ?_; (case hd => rfl); (case hg => rfl); (case hr => first | (go_simp; done) | (go_simp; rfl)); intro gb101 hg w5 hbox hb; have n0_ := Aside0.mk (below_step (by repeat (first | (with_reducible first | exact HB.out | apply below_alloc | apply pw_below_drewN | apply below_drew1) | exact HB.out)) hb); have n1_ := Aside0.mk (hbox); have n2_ := Aside0.mk ((by rw [hg]; exact (below_size (by repeat (first | (with_reducible first | exact HB.out | apply below_alloc | apply pw_below_drewN | apply below_drew1) | exact HB.out))) : w.heap.size ≤ gb101)); have n3_ := Aside0.mk ((by rw [hg]; exact (below_size (by repeat (first | (with_reducible first | exact HB.out | apply below_alloc | apply pw_below_drewN | apply below_drew1) | exact HB.out))) : w.heap.size ≤ gb101)); clear HB; have HB := n0_; have BK101 := n1_; have GW101 := n2_; have GE101 := n3_; clear n0_ n1_ n2_ n3_; clear hb hbox hg) | ((with_reducible refine gate_dst (N := 9) rfl ?_); refine box_event ?hg (N := 9) ?hd (cs := #[.int .i64 0, .int .i64 0, .int .u64 0, .slice none 0 0, .slice none 0 0]) (t := 31) ?hr ?_; (case hd => rfl); (case hg => rfl); (case hr => first | (go_simp; done) | (go_simp; rfl)); intro gb102 hg w6 hbox hb; have n0_ := Aside0.mk (blk_below (g := gb101) (o := .cells #[.int .i64 0, .int .i64 0, .int .u64 0, .slice none 0 0, .slice none 0 0] 31 (0, 0)) (by (with_reducible repeat (first | refine blk_drewN ?_ _ | refine blk_drew ?_ | refine blk_alloc ?_ _)); exact BK101.out) hb); have n1_ := Aside0.mk (below_step (by repeat (first | (with_reducible first | exact HB.out | apply below_alloc | apply pw_below_drewN | apply below_drew1 | refine below_set ?_ GE101.out) | exact HB.out)) hb); have n2_ := Aside0.mk (hbox); have n3_ := Aside0.mk ((by rw [hg]; exact (below_size (by repeat (first | (with_reducible first | exact HB.out | apply below_alloc | apply pw_below_drewN | apply below_drew1 | refine below_set ?_ GE101.out) | exact HB.out))) : w.heap.size ≤ gb102)); have n4_ := Aside0.mk ((by rw [hg]; exact (below_size (by repeat (first | (with_reducible first | exact HB.out | apply below_alloc | apply pw_below_drewN | apply below_drew1 | refine below_set ?_ GE101.out) | exact HB.out))) : w.heap.size ≤ gb102)); have n5_ := Aside0.mk ((by rw [hg]; exact Nat.ne_of_lt (blk_lt (g := gb101) (o := .cells #[.int .i64 0, .int .i64 0, .int .u64 0, .slice none 0 0, .slice none 0 0] 31 (0, 0)) (by (with_reducible repeat (first | refine blk_drewN ?_ _ | refine blk_drew ?_ | refine blk_alloc ?_ _)); exact BK101.out)) : gb101 ≠ gb102)); have n6_ := Aside0.mk ((by rw [hg]; exact Nat.ne_of_gt (blk_lt (g := gb101) (o := .cells #[.int .i64 0, .int .i64 0, .int .u64 0, .slice none 0 0, .slice none 0 0] 31 (0, 0)) (by (with_reducible repeat (first | refine blk_drewN ?_ _ | refine blk_drew ?_ | refine blk_alloc ?_ _)); exact BK101.out)) : gb102 ≠ gb101)); clear BK101; clear HB; have BK101 := n0_; have HB := n1_; have BK102 := n2_; have GW102 := n3_; have GE102 := n4_; have NB101_102 := n5_; have NB102_101 := n6_; clear n0_ n1_ n2_ n3_ n4_ n5_ n6_; clear hb hbox hg; have hnb7 := NB102_101.out; have hnc7 := NB101_102.out; have hcz8_0 : w6.cell? ⟨gb102, 0, none⟩ = some (.int .i64 0) := (blk_cell BK102.out 0).trans rfl; have hcz8_1 : w6.cell? ⟨gb102, 1, none⟩ = some (.int .i64 0) := (blk_cell BK102.out 1).trans rfl; have hcz8_2 : w6.cell? ⟨gb102, 2, none⟩ = some (.int .u64 0) := (blk_cell BK102.out 2).trans rfl; have hcz8_3 : w6.cell? ⟨gb102, 3, none⟩ = some (.slice none 0 0) := (blk_cell BK102.out 3).trans rfl; have hcz8_4 : w6.cell? ⟨gb102, 4, none⟩ = some (.slice none 0 0) := (blk_cell BK102.out 4).trans rfl; have hfz8_0 := blk_frozen BK102.out 0; have hfz8_1 := blk_frozen BK102.out 1; have hfz8_2 := blk_frozen BK102.out 2; have hfz8_3 := blk_frozen BK102.out 3; have hfz8_4 := blk_frozen BK102.out 4))
  go_loopg [20] k (fun kq v20 w' => ∃ (x20_1 : Int) (x103004_1 : List (S43)) (u103004 : Value), v20 = .int .i64 x20_1 ∧ Aside0 (edit_Whole.l0 kq l0 (l0.length : Int) x20_1 a1 a2 a3 x103004_1 = some (r1, r2, r3, r4, r5)) ∧ Aside0 (kq ≤ k) ∧ Aside0 (Kd.R k43 43 w' w.heap.size (fun _ => True) u103004 x103004_1) ∧ Aside0 (w'.heap[gb101]? = some (.cells #[.int .i64 0, .int .i64 0, .int .u64 0, (.slice none 0 0), (.slice none 0 0)] 31 (0, 0))) ∧ Aside0 (w'.heap[gb102]? = some (.cells #[.int .i64 a1, .int .i64 a2, .int .u64 a3, (.slice none 0 0), u103004] 31 (0, 0))) ∧ Aside0 (Below w.heap.size w w'))
  case atStart => exact ⟨(0), (([] : List (S43))), (.slice none 0 0), (by first | rfl | (simp; done) | (simp [*]; done)), H', ⟨Nat.le_refl _⟩, ⟨by first | exact Kd.R_nil _ _ _ _ _ | exact Kd.N_nil _ _ _ _ _ | exact Kd.V_nil _ _ _ _ _ | exact Kd.Q_nil _ _ _ _ _ | exact Kd.S_nil _ _ _ _ _⟩, ⟨by (with_reducible repeat (first | refine blk_drewN ?_ _ | refine blk_drew ?_ | refine blk_alloc ?_ _)); refine blk_far ?_ NB101_102.out _; (with_reducible repeat (first | refine blk_drewN ?_ _ | refine blk_drew ?_ | refine blk_alloc ?_ _)); refine blk_far ?_ NB101_102.out _; (with_reducible repeat (first | refine blk_drewN ?_ _ | refine blk_drew ?_ | refine blk_alloc ?_ _)); refine blk_far ?_ NB101_102.out _; (with_reducible repeat (first | refine blk_drewN ?_ _ | refine blk_drew ?_ | refine blk_alloc ?_ _)); refine blk_far ?_ NB101_102.out _; (with_reducible repeat (first | refine blk_drewN ?_ _ | refine blk_drew ?_ | refine blk_alloc ?_ _)); refine blk_far ?_ NB101_102.out _; (with_reducible repeat (first | refine blk_drewN ?_ _ | refine blk_drew ?_ | refine blk_alloc ?_ _)); exact BK101.out⟩, ⟨by (with_reducible repeat (first | refine blk_drewN ?_ _ | refine blk_drew ?_ | refine blk_alloc ?_ _)); refine blk_put (cs := #[.int .i64 a1, .int .i64 a2, .int .u64 a3, .slice none 0 0, .slice none 0 0]) ?_ 4 _ rfl; (with_reducible repeat (first | refine blk_drewN ?_ _ | refine blk_drew ?_ | refine blk_alloc ?_ _)); refine blk_put (cs := #[.int .i64 a1, .int .i64 a2, .int .u64 a3, .slice none 0 0, .slice none 0 0]) ?_ 3 _ rfl; (with_reducible repeat (first | refine blk_drewN ?_ _ | refine blk_drew ?_ | refine blk_alloc ?_ _)); refine blk_put (cs := #[.int .i64 a1, .int .i64 a2, .int .u64 0, .slice none 0 0, .slice none 0 0]) ?_ 2 _ rfl; (with_reducible repeat (first | refine blk_drewN ?_ _ | refine blk_drew ?_ | refine blk_alloc ?_ _)); refine blk_put (cs := #[.int .i64 a1, .int .i64 0, .int .u64 0, .slice none 0 0, .slice none 0 0]) ?_ 1 _ rfl; (with_reducible repeat (first | refine blk_drewN ?_ _ | refine blk_drew ?_ | refine blk_alloc ?_ _)); refine blk_put (cs := #[.int .i64 0, .int .i64 0, .int .u64 0, .slice none 0 0, .slice none 0 0]) ?_ 0 _ rfl; (with_reducible repeat (first | refine blk_drewN ?_ _ | refine blk_drew ?_ | refine blk_alloc ?_ _)); exact BK102.out⟩, ⟨by repeat (first | (with_reducible first | exact HB.out | apply below_alloc | apply pw_below_drewN | apply below_drew1 | refine below_set ?_ GE101.out | refine below_set ?_ GE102.out) | exact HB.out)⟩⟩
  case round =>
    clear H'
    try clear p2
    try clear c6
    try clear c7
    try clear hcz8_0
    try clear hcz8_1
    try clear hcz8_2
    try clear hcz8_3
    try clear hcz8_4
    try clear hfz8_0
    try clear hfz8_1
    try clear hfz8_2
    try clear hfz8_3
    try clear hfz8_4
    obtain ⟨x20_1, x103004_1, u103004, rfl, HA, HK1, HO_103004, BK101, BK102, HB⟩ := hrel
    cases gk with
    | zero => exact absurd HA.out (by simp [edit_Whole.l0])
    | succ k1 =>
      have H := HA.out
      clear HA
      simp only [edit_Whole.l0] at H
      by_cases c9 : x20_1 < (l0.length : Int)
      · rw [if_pos c9] at H
        have c9b0 : decide (x20_1 < (l0.length : Int)) = true := decide_eq_true c9
        clear c9
        by_cases c10 : 0 ≤ x20_1
        · rw [if_pos c10] at H
          have c10b0 : decide (0 ≤ x20_1) = true := decide_eq_true c10
          clear c10
          by_cases c11 : x20_1 < (l0.length : Int)
          · rw [if_pos c11] at H
            have c11b0 : decide (x20_1 < (l0.length : Int)) = true := decide_eq_true c11
            clear c11
            have H' := Aside0.mk H
            clear H
            have p103 : 0 ≤ (x20_1 : Int) := of_decide_eq_true (by first | (with_reducible assumption) | assumption)
            have q103 : x20_1 < (l0.length : Int) := of_decide_eq_true (by first | (with_reducible assumption) | assumption)
            obtain ⟨ad103, A103_0, c103_0, e103, hx103_0, hl103_0, hi103_0⟩ := at_L4 HR0.out x20_1 p103 q103
            cases e103
            replace hx103_0 := (HB.out.cell (World.block_lt_of_cell? w _ hx103_0)).trans hx103_0
            have HR103_0 := Aside0.mk hi103_0
            have HC103_0 := Aside0.mk hl103_0
            clear hi103_0 hl103_0
            replace p103 := eq_true p103
            replace q103 := eq_true q103
            go_wp2
            go_loopg [27] k1 (fun kq v27 w' => ∃ (x27_2 : Int) (x103004_2 : List (S43)) (u103004 : Value), v27 = .int .i64 x27_2 ∧ Aside0 (edit_Whole.l1 kq x20_1 l0 (l0.length : Int) x20_1 (rd_L4 l0 x20_1) ((rd_L4 l0 x20_1).length : Int) x27_2 a1 a2 a3 x103004_2 = some (r1, r2, r3, r4, r5)) ∧ Aside0 (kq ≤ k1) ∧ Aside0 (Kd.R k43 43 w' w.heap.size (fun _ => True) u103004 x103004_2) ∧ Aside0 (w'.heap[gb101]? = some (.cells #[.int .i64 0, .int .i64 0, .int .u64 0, (.slice none 0 0), (.slice none 0 0)] 31 (0, 0))) ∧ Aside0 (w'.heap[gb102]? = some (.cells #[.int .i64 a1, .int .i64 a2, .int .u64 a3, (.slice none 0 0), u103004] 31 (0, 0))) ∧ Aside0 (Below w.heap.size w w'))
            case atStart => exact ⟨(0), (x103004_1), (u103004), (by first | rfl | (simp; done) | (simp [*]; done)), H', ⟨Nat.le_refl _⟩, ⟨by (with_reducible repeat (first | apply Kd.R_alloc | apply Kd.R_drewN | apply Kd.R_drew)); exact HO_103004.out⟩, ⟨by (with_reducible repeat (first | refine blk_drewN ?_ _ | refine blk_drew ?_ | refine blk_alloc ?_ _)); exact BK101.out⟩, ⟨by (with_reducible repeat (first | refine blk_drewN ?_ _ | refine blk_drew ?_ | refine blk_alloc ?_ _)); exact BK102.out⟩, ⟨by repeat (first | (with_reducible first | exact HB.out | apply below_alloc | apply pw_below_drewN | apply below_drew1 | refine below_set ?_ GE101.out | refine below_set ?_ GE102.out) | exact HB.out)⟩⟩
            case round =>
              clear H'
              try clear c1
              try clear p1
              try clear q1
              try clear hx1
              try clear p2
              try clear c6
              try clear c7
              try clear c9
              try clear c9b0
              try clear c10
              try clear c10b0
              try clear p10
              try clear q10
              try clear hx10
              try clear c11
              try clear c11b0
              try clear hcz8_0
              try clear hcz8_1
              try clear hcz8_2
              try clear hcz8_3
              try clear hcz8_4
              try clear hfz8_0
              try clear hfz8_1
              try clear hfz8_2
              try clear hfz8_3
              try clear hfz8_4
              try clear hx103_0
              try clear p103
              try clear p2
              try clear q103
              obtain ⟨x27_2, x103004_2, u103004, rfl, HA, HK2, HO_103004, BK101, BK102, HB⟩ := hrel
              cases gk with
              | zero => exact absurd HA.out (by simp [edit_Whole.l1])
              | succ k2 =>
                have H := HA.out
                clear HA
                simp only [edit_Whole.l1] at H
                by_cases c12 : x27_2 < ((rd_L4 l0 x20_1).length : Int)
                · rw [if_pos c12] at H
                  have c12b0 : decide (x27_2 < ((rd_L4 l0 x20_1).length : Int)) = true := decide_eq_true c12
                  clear c12
                  by_cases c13 : 0 ≤ x27_2
                  · rw [if_pos c13] at H
                    have c13b0 : decide (0 ≤ x27_2) = true := decide_eq_true c13
                    clear c13
                    by_cases c14 : x27_2 < ((rd_L4 l0 x20_1).length : Int)
                    · rw [if_pos c14] at H
                      have c14b0 : decide (x27_2 < ((rd_L4 l0 x20_1).length : Int)) = true := decide_eq_true c14
                      clear c14
                      by_cases c15 : x103004_2.length < 1954687338268
                      · rw [if_pos c15] at H
                        have LMc15 := Aside0.mk c15
                        clear c15
                        obtain ⟨y106, hy106⟩ : ∃ y_ : List (S43), y_ = (x103004_2 ++ [(⟨x20_1, (⟨(rd_T36 (rd_L4 l0 x20_1) x27_2).f0, (rd_T36 (rd_L4 l0 x20_1) x27_2).f1, (rd_T36 (rd_L4 l0 x20_1) x27_2).f2, (rd_T36 (rd_L4 l0 x20_1) x27_2).f3, (rd_T36 (rd_L4 l0 x20_1) x27_2).f4, (rd_T36 (rd_L4 l0 x20_1) x27_2).f5⟩ : S36)⟩ : S43)]) := ⟨_, rfl⟩
                        replace H : (edit_Whole.l1 k2 x20_1 l0 (l0.length : Int) x20_1 (rd_L4 l0 x20_1) ((rd_L4 l0 x20_1).length : Int) (wrap64 (x27_2 + 1)) a1 a2 a3 y106) = some (r1, r2, r3, r4, r5) := by first | (rw [hy106]; with_reducible exact H) | (have H2_ := (Option.bind_some _ _).symm.trans H; rw [hy106]; with_reducible exact H2_) | (have H2_ := (Option.bind_some _ _).symm.trans H; with_reducible exact H2_) | with_reducible exact H | (rw [hy106]; exact H) | exact H
                        have Ny106 := Aside0.mk hy106
                        clear hy106
                        have H' := Aside0.mk H
                        clear H
                        have p104 : 0 ≤ (x27_2 : Int) := of_decide_eq_true (by first | (with_reducible assumption) | assumption)
                        have q104 : x27_2 < ((rd_L4 l0 x20_1).length : Int) := of_decide_eq_true (by first | (with_reducible assumption) | assumption)
                        obtain ⟨ad104, e104, hx104_0, hx104_1, hx104_2, hx104_3, hx104_4, hx104_5⟩ := at_T36 HR103_0.out x27_2 p104 q104
                        cases e104
                        replace hx104_0 := (HB.out.cell (World.block_lt_of_cell? w _ hx104_0)).trans hx104_0
                        replace hx104_1 := (HB.out.cell (World.block_lt_of_cell? w _ hx104_1)).trans hx104_1
                        replace hx104_2 := (HB.out.cell (World.block_lt_of_cell? w _ hx104_2)).trans hx104_2
                        replace hx104_3 := (HB.out.cell (World.block_lt_of_cell? w _ hx104_3)).trans hx104_3
                        replace hx104_4 := (HB.out.cell (World.block_lt_of_cell? w _ hx104_4)).trans hx104_4
                        replace hx104_5 := (HB.out.cell (World.block_lt_of_cell? w _ hx104_5)).trans hx104_5
                        replace p104 := eq_true p104
                        replace q104 := eq_true q104
                        go_wp2_with (first | ((with_reducible refine gate_dst (N := 13) rfl ?_); refine box_event ?hg (N := 13) ?hd (cs := #[.int .i64 0, .int .i64 0, .string (⟨#[]⟩ : ByteArray), .string (⟨#[]⟩ : ByteArray), .int .u64 0, .int .u64 0]) (t := 36) ?hr ?_; (case hd => rfl); (case hg => rfl); (case hr => first | (go_simp; done) | (go_simp; rfl)); intro gb105 hg w16 hbox hb; have n0_ := Aside0.mk (Kd.R_below (by (with_reducible repeat (first | apply Kd.R_alloc | apply Kd.R_drewN | apply Kd.R_drew)); exact HO_103004.out) hb); have n1_ := Aside0.mk (blk_below (g := gb101) (o := .cells #[.int .i64 0, .int .i64 0, .int .u64 0, .slice none 0 0, .slice none 0 0] 31 (0, 0)) (by (with_reducible repeat (first | refine blk_drewN ?_ _ | refine blk_drew ?_ | refine blk_alloc ?_ _)); exact BK101.out) hb); have n2_ := Aside0.mk (blk_below (g := gb102) (o := .cells #[.int .i64 a1, .int .i64 a2, .int .u64 a3, .slice none 0 0, u103004] 31 (0, 0)) (by (with_reducible repeat (first | refine blk_drewN ?_ _ | refine blk_drew ?_ | refine blk_alloc ?_ _)); exact BK102.out) hb); have n3_ := Aside0.mk (below_step (by repeat (first | (with_reducible first | exact HB.out | apply below_alloc | apply pw_below_drewN | apply below_drew1 | refine below_set ?_ GE101.out | refine below_set ?_ GE102.out) | exact HB.out)) hb); have n4_ := Aside0.mk (hbox); have n5_ := Aside0.mk ((by rw [hg]; exact (below_size (by repeat (first | (with_reducible first | exact HB.out | apply below_alloc | apply pw_below_drewN | apply below_drew1 | refine below_set ?_ GE101.out | refine below_set ?_ GE102.out) | exact HB.out))) : w.heap.size ≤ gb105)); have n6_ := Aside0.mk ((by rw [hg]; exact (below_size (by repeat (first | (with_reducible first | exact HB.out | apply below_alloc | apply pw_below_drewN | apply below_drew1 | refine below_set ?_ GE101.out | refine below_set ?_ GE102.out) | exact HB.out))) : w.heap.size ≤ gb105)); have n7_ := Aside0.mk ((by rw [hg]; exact Nat.ne_of_lt (blk_lt (g := gb101) (o := .cells #[.int .i64 0, .int .i64 0, .int .u64 0, .slice none 0 0, .slice none 0 0] 31 (0, 0)) (by (with_reducible repeat (first | refine blk_drewN ?_ _ | refine blk_drew ?_ | refine blk_alloc ?_ _)); exact BK101.out)) : gb101 ≠ gb105)); have n8_ := Aside0.mk ((by rw [hg]; exact Nat.ne_of_gt (blk_lt (g := gb101) (o := .cells #[.int .i64 0, .int .i64 0, .int .u64 0, .slice none 0 0, .slice none 0 0] 31 (0, 0)) (by (with_reducible repeat (first | refine blk_drewN ?_ _ | refine blk_drew ?_ | refine blk_alloc ?_ _)); exact BK101.out)) : gb105 ≠ gb101)); have n9_ := Aside0.mk ((by rw [hg]; exact Nat.ne_of_lt (blk_lt (g := gb102) (o := .cells #[.int .i64 a1, .int .i64 a2, .int .u64 a3, .slice none 0 0, u103004] 31 (0, 0)) (by (with_reducible repeat (first | refine blk_drewN ?_ _ | refine blk_drew ?_ | refine blk_alloc ?_ _)); exact BK102.out)) : gb102 ≠ gb105)); have n10_ := Aside0.mk ((by rw [hg]; exact Nat.ne_of_gt (blk_lt (g := gb102) (o := .cells #[.int .i64 a1, .int .i64 a2, .int .u64 a3, .slice none 0 0, u103004] 31 (0, 0)) (by (with_reducible repeat (first | refine blk_drewN ?_ _ | refine blk_drew ?_ | refine blk_alloc ?_ _)); exact BK102.out)) : gb105 ≠ gb102)); clear HO_103004; clear BK101; clear BK102; clear HB; have HO_103004 := n0_; have BK101 := n1_; have BK102 := n2_; have HB := n3_; have BK105 := n4_; have GW105 := n5_; have GE105 := n6_; have NB101_105 := n7_; have NB105_101 := n8_; have NB102_105 := n9_; have NB105_102 := n10_; clear n0_ n1_ n2_ n3_ n4_ n5_ n6_ n7_ n8_ n9_ n10_; clear hb hbox hg; have hnb17 := NB105_101.out; have hnc17 := NB101_105.out; have hnb18 := NB105_102.out; have hnc18 := NB102_105.out; have hcz19_0 : w16.cell? ⟨gb105, 0, none⟩ = some (.int .i64 0) := (blk_cell BK105.out 0).trans rfl; have hcz19_1 : w16.cell? ⟨gb105, 1, none⟩ = some (.int .i64 0) := (blk_cell BK105.out 1).trans rfl; have hcz19_2 : w16.cell? ⟨gb105, 2, none⟩ = some (.string (⟨#[]⟩ : ByteArray)) := (blk_cell BK105.out 2).trans rfl; have hcz19_3 : w16.cell? ⟨gb105, 3, none⟩ = some (.string (⟨#[]⟩ : ByteArray)) := (blk_cell BK105.out 3).trans rfl; have hcz19_4 : w16.cell? ⟨gb105, 4, none⟩ = some (.int .u64 0) := (blk_cell BK105.out 4).trans rfl; have hcz19_5 : w16.cell? ⟨gb105, 5, none⟩ = some (.int .u64 0) := (blk_cell BK105.out 5).trans rfl; have hfz19_0 := blk_frozen BK105.out 0; have hfz19_1 := blk_frozen BK105.out 1; have hfz19_2 := blk_frozen BK105.out 2; have hfz19_3 := blk_frozen BK105.out 3; have hfz19_4 := blk_frozen BK105.out 4; have hfz19_5 := blk_frozen BK105.out 5; have hnb20 := NB102_101.out; have hnc20 := NB101_102.out; have hcz21_0 : w16.cell? ⟨gb102, 0, none⟩ = some (.int .i64 a1) := (blk_cell BK102.out 0).trans rfl; have hcz21_1 : w16.cell? ⟨gb102, 1, none⟩ = some (.int .i64 a2) := (blk_cell BK102.out 1).trans rfl; have hcz21_2 : w16.cell? ⟨gb102, 2, none⟩ = some (.int .u64 a3) := (blk_cell BK102.out 2).trans rfl; have hcz21_3 : w16.cell? ⟨gb102, 3, none⟩ = some (.slice none 0 0) := (blk_cell BK102.out 3).trans rfl; have hcz21_4 : w16.cell? ⟨gb102, 4, none⟩ = some (u103004) := (blk_cell BK102.out 4).trans rfl; have hfz21_0 := blk_frozen BK102.out 0; have hfz21_1 := blk_frozen BK102.out 1; have hfz21_2 := blk_frozen BK102.out 2; have hfz21_3 := blk_frozen BK102.out 3; have hfz21_4 := blk_frozen BK102.out 4) | ((with_reducible refine gate_builtin (b := .append) (xs := #[.tmp 32, .tmp 36]) rfl ?_); at_builtin; refine Kd.R_append k43 (w0 := w) w.heap.size rfl (.tmp 32) (.tmp 36) 29 43 (.agg #[(.int .i64 0), (.int .i64 0), (.int .i64 0), (.string ⟨#[]⟩), (.string ⟨#[]⟩), (.int .u64 0), (.int .u64 0)]) 72 rfl Try.underlying29 info43 rfl (by decide) (by omega) u103004 x103004_2 (⟨x20_1, (⟨(rd_T36 (rd_L4 l0 x20_1) x27_2).f0, (rd_T36 (rd_L4 l0 x20_1) x27_2).f1, (rd_T36 (rd_L4 l0 x20_1) x27_2).f2, (rd_T36 (rd_L4 l0 x20_1) x27_2).f3, (rd_T36 (rd_L4 l0 x20_1) x27_2).f4, (rd_T36 (rd_L4 l0 x20_1) x27_2).f5⟩ : S36)⟩ : S43) [.int .i64 x20_1, .int .i64 ((rd_T36 (rd_L4 l0 x20_1) x27_2).f0), .int .i64 ((rd_T36 (rd_L4 l0 x20_1) x27_2).f1), .string ((rd_T36 (rd_L4 l0 x20_1) x27_2).f2), .string ((rd_T36 (rd_L4 l0 x20_1) x27_2).f3), .int .u64 ((rd_T36 (rd_L4 l0 x20_1) x27_2).f4), .int .u64 ((rd_T36 (rd_L4 l0 x20_1) x27_2).f5)] (fun _ => True) (fun _ => False) rfl (by first | (go_simp; done) | (go_simp; rfl)) ?aP (fun _ hk => hk.elim) ?aF ?aO ?aB ?aS ?aL ?_; (case aP => exact k43_mkM _ _ _ (⟨x20_1, (⟨(rd_T36 (rd_L4 l0 x20_1) x27_2).f0, (rd_T36 (rd_L4 l0 x20_1) x27_2).f1, (rd_T36 (rd_L4 l0 x20_1) x27_2).f2, (rd_T36 (rd_L4 l0 x20_1) x27_2).f3, (rd_T36 (rd_L4 l0 x20_1) x27_2).f4, (rd_T36 (rd_L4 l0 x20_1) x27_2).f5⟩ : S36)⟩ : S43)); (case aB => exact (by repeat (first | (with_reducible first | exact HB.out | apply below_alloc | apply pw_below_drewN | apply below_drew1 | refine below_set ?_ GE101.out | refine below_set ?_ GE102.out | refine below_set ?_ GE105.out) | exact HB.out))); (case aF => exact (fun _ _ => trivial)); (case aO => exact (by (with_reducible repeat (first | apply Kd.R_alloc | apply Kd.R_drewN | apply Kd.R_drew)); exact Kd.R_mono (Kd.R_far (p := ⟨gb105, 5, none⟩) (Kd.R_far (p := ⟨gb105, 4, none⟩) (Kd.R_far (p := ⟨gb105, 3, none⟩) (Kd.R_far (p := ⟨gb105, 2, none⟩) (Kd.R_far (p := ⟨gb105, 1, none⟩) (Kd.R_far (p := ⟨gb105, 0, none⟩) (Kd.R_types HO_103004.out BK105.out (by decide)) (fun _ hk => hk.2) (.int .i64 ((rd_T36 (rd_L4 l0 x20_1) x27_2).f0))) (fun _ hk => hk.2) (.int .i64 ((rd_T36 (rd_L4 l0 x20_1) x27_2).f1))) (fun _ hk => hk.2) (.string ((rd_T36 (rd_L4 l0 x20_1) x27_2).f2))) (fun _ hk => hk.2) (.string ((rd_T36 (rd_L4 l0 x20_1) x27_2).f3))) (fun _ hk => hk.2) (.int .u64 ((rd_T36 (rd_L4 l0 x20_1) x27_2).f4))) (fun _ hk => hk.2) (.int .u64 ((rd_T36 (rd_L4 l0 x20_1) x27_2).f5))) (fun _ hk => trivial))); (case aS => exact (below_size (by repeat (first | (with_reducible first | exact HB.out | apply below_alloc | apply pw_below_drewN | apply below_drew1 | refine below_set ?_ GE101.out | refine below_set ?_ GE102.out | refine below_set ?_ GE105.out) | exact HB.out)))); (case aL => have := LMc15.out; omega); intro v107 w22 ho hb hg hat; rw [← Ny106.out] at ho; have n0_ := Aside0.mk (blk_grown (g := gb101) (o := .cells #[.int .i64 0, .int .i64 0, .int .u64 0, .slice none 0 0, .slice none 0 0] 31 (0, 0)) (by (with_reducible repeat (first | refine blk_drewN ?_ _ | refine blk_drew ?_ | refine blk_alloc ?_ _)); refine blk_far ?_ NB101_105.out _; (with_reducible repeat (first | refine blk_drewN ?_ _ | refine blk_drew ?_ | refine blk_alloc ?_ _)); refine blk_far ?_ NB101_105.out _; (with_reducible repeat (first | refine blk_drewN ?_ _ | refine blk_drew ?_ | refine blk_alloc ?_ _)); refine blk_far ?_ NB101_105.out _; (with_reducible repeat (first | refine blk_drewN ?_ _ | refine blk_drew ?_ | refine blk_alloc ?_ _)); refine blk_far ?_ NB101_105.out _; (with_reducible repeat (first | refine blk_drewN ?_ _ | refine blk_drew ?_ | refine blk_alloc ?_ _)); refine blk_far ?_ NB101_105.out _; (with_reducible repeat (first | refine blk_drewN ?_ _ | refine blk_drew ?_ | refine blk_alloc ?_ _)); refine blk_far ?_ NB101_105.out _; (with_reducible repeat (first | refine blk_drewN ?_ _ | refine blk_drew ?_ | refine blk_alloc ?_ _)); exact BK101.out) hg (Kd.R_ne HO_103004.out BK101.out (by decide))); have n1_ := Aside0.mk (blk_grown (g := gb102) (o := .cells #[.int .i64 a1, .int .i64 a2, .int .u64 a3, .slice none 0 0, u103004] 31 (0, 0)) (by (with_reducible repeat (first | refine blk_drewN ?_ _ | refine blk_drew ?_ | refine blk_alloc ?_ _)); refine blk_far ?_ NB102_105.out _; (with_reducible repeat (first | refine blk_drewN ?_ _ | refine blk_drew ?_ | refine blk_alloc ?_ _)); refine blk_far ?_ NB102_105.out _; (with_reducible repeat (first | refine blk_drewN ?_ _ | refine blk_drew ?_ | refine blk_alloc ?_ _)); refine blk_far ?_ NB102_105.out _; (with_reducible repeat (first | refine blk_drewN ?_ _ | refine blk_drew ?_ | refine blk_alloc ?_ _)); refine blk_far ?_ NB102_105.out _; (with_reducible repeat (first | refine blk_drewN ?_ _ | refine blk_drew ?_ | refine blk_alloc ?_ _)); refine blk_far ?_ NB102_105.out _; (with_reducible repeat (first | refine blk_drewN ?_ _ | refine blk_drew ?_ | refine blk_alloc ?_ _)); refine blk_far ?_ NB102_105.out _; (with_reducible repeat (first | refine blk_drewN ?_ _ | refine blk_drew ?_ | refine blk_alloc ?_ _)); exact BK102.out) hg (Kd.R_ne HO_103004.out BK102.out (by decide))); have n2_ := Aside0.mk (blk_grown (g := gb105) (o := .cells #[.int .i64 ((rd_T36 (rd_L4 l0 x20_1) x27_2).f0), .int .i64 ((rd_T36 (rd_L4 l0 x20_1) x27_2).f1), .string ((rd_T36 (rd_L4 l0 x20_1) x27_2).f2), .string ((rd_T36 (rd_L4 l0 x20_1) x27_2).f3), .int .u64 ((rd_T36 (rd_L4 l0 x20_1) x27_2).f4), .int .u64 ((rd_T36 (rd_L4 l0 x20_1) x27_2).f5)] 36 (0, 0)) (by (with_reducible repeat (first | refine blk_drewN ?_ _ | refine blk_drew ?_ | refine blk_alloc ?_ _)); refine blk_put (cs := #[.int .i64 ((rd_T36 (rd_L4 l0 x20_1) x27_2).f0), .int .i64 ((rd_T36 (rd_L4 l0 x20_1) x27_2).f1), .string ((rd_T36 (rd_L4 l0 x20_1) x27_2).f2), .string ((rd_T36 (rd_L4 l0 x20_1) x27_2).f3), .int .u64 ((rd_T36 (rd_L4 l0 x20_1) x27_2).f4), .int .u64 0]) ?_ 5 _ rfl; (with_reducible repeat (first | refine blk_drewN ?_ _ | refine blk_drew ?_ | refine blk_alloc ?_ _)); refine blk_put (cs := #[.int .i64 ((rd_T36 (rd_L4 l0 x20_1) x27_2).f0), .int .i64 ((rd_T36 (rd_L4 l0 x20_1) x27_2).f1), .string ((rd_T36 (rd_L4 l0 x20_1) x27_2).f2), .string ((rd_T36 (rd_L4 l0 x20_1) x27_2).f3), .int .u64 0, .int .u64 0]) ?_ 4 _ rfl; (with_reducible repeat (first | refine blk_drewN ?_ _ | refine blk_drew ?_ | refine blk_alloc ?_ _)); refine blk_put (cs := #[.int .i64 ((rd_T36 (rd_L4 l0 x20_1) x27_2).f0), .int .i64 ((rd_T36 (rd_L4 l0 x20_1) x27_2).f1), .string ((rd_T36 (rd_L4 l0 x20_1) x27_2).f2), .string (⟨#[]⟩ : ByteArray), .int .u64 0, .int .u64 0]) ?_ 3 _ rfl; (with_reducible repeat (first | refine blk_drewN ?_ _ | refine blk_drew ?_ | refine blk_alloc ?_ _)); refine blk_put (cs := #[.int .i64 ((rd_T36 (rd_L4 l0 x20_1) x27_2).f0), .int .i64 ((rd_T36 (rd_L4 l0 x20_1) x27_2).f1), .string (⟨#[]⟩ : ByteArray), .string (⟨#[]⟩ : ByteArray), .int .u64 0, .int .u64 0]) ?_ 2 _ rfl; (with_reducible repeat (first | refine blk_drewN ?_ _ | refine blk_drew ?_ | refine blk_alloc ?_ _)); refine blk_put (cs := #[.int .i64 ((rd_T36 (rd_L4 l0 x20_1) x27_2).f0), .int .i64 0, .string (⟨#[]⟩ : ByteArray), .string (⟨#[]⟩ : ByteArray), .int .u64 0, .int .u64 0]) ?_ 1 _ rfl; (with_reducible repeat (first | refine blk_drewN ?_ _ | refine blk_drew ?_ | refine blk_alloc ?_ _)); refine blk_put (cs := #[.int .i64 0, .int .i64 0, .string (⟨#[]⟩ : ByteArray), .string (⟨#[]⟩ : ByteArray), .int .u64 0, .int .u64 0]) ?_ 0 _ rfl; (with_reducible repeat (first | refine blk_drewN ?_ _ | refine blk_drew ?_ | refine blk_alloc ?_ _)); exact BK105.out) hg (Kd.R_ne HO_103004.out BK105.out (by decide))); have n3_ := Aside0.mk (hb); have n4_ := Aside0.mk (ho); clear BK101; clear BK102; clear BK105; clear HB; clear HO_103004; have BK101 := n0_; have BK102 := n1_; have BK105 := n2_; have HB := n3_; have HO108 := n4_; clear n0_ n1_ n2_ n3_ n4_; clear ho hb hg hat; obtain ⟨Ao23, co23, eo23⟩ := Kd.R_slice HO108.out; subst eo23; have hcz24_0 : w22.cell? ⟨gb102, 0, none⟩ = some (.int .i64 a1) := (blk_cell BK102.out 0).trans rfl; have hcz24_1 : w22.cell? ⟨gb102, 1, none⟩ = some (.int .i64 a2) := (blk_cell BK102.out 1).trans rfl; have hcz24_2 : w22.cell? ⟨gb102, 2, none⟩ = some (.int .u64 a3) := (blk_cell BK102.out 2).trans rfl; have hcz24_3 : w22.cell? ⟨gb102, 3, none⟩ = some (.slice none 0 0) := (blk_cell BK102.out 3).trans rfl; have hcz24_4 : w22.cell? ⟨gb102, 4, none⟩ = some (u103004) := (blk_cell BK102.out 4).trans rfl; have hfz24_0 := blk_frozen BK102.out 0; have hfz24_1 := blk_frozen BK102.out 1; have hfz24_2 := blk_frozen BK102.out 2; have hfz24_3 := blk_frozen BK102.out 3; have hfz24_4 := blk_frozen BK102.out 4))
                        go_roundg k2
                        case measure => have := HK1.out; have := HK2.out; omega
                        case rel => exact ⟨(wrap64 (x27_2 + 1)), (y106), (.slice Ao23 y106.length co23), (by first | rfl | (simp; done) | (simp [*]; done)), H', ⟨by have := HK1.out; have := HK2.out; omega⟩, ⟨by (with_reducible repeat (first | apply Kd.R_alloc | apply Kd.R_drewN | apply Kd.R_drew)); exact Kd.R_mono (Kd.R_far (p := ⟨gb102, 4, none⟩) (Kd.R_types HO108.out BK102.out (by decide)) (fun _ hk => hk.2) (.slice Ao23 y106.length co23)) (fun _ hk => trivial)⟩, ⟨by (with_reducible repeat (first | refine blk_drewN ?_ _ | refine blk_drew ?_ | refine blk_alloc ?_ _)); refine blk_far ?_ NB101_102.out _; (with_reducible repeat (first | refine blk_drewN ?_ _ | refine blk_drew ?_ | refine blk_alloc ?_ _)); exact BK101.out⟩, ⟨by (with_reducible repeat (first | refine blk_drewN ?_ _ | refine blk_drew ?_ | refine blk_alloc ?_ _)); refine blk_put (cs := #[.int .i64 a1, .int .i64 a2, .int .u64 a3, .slice none 0 0, u103004]) ?_ 4 _ rfl; (with_reducible repeat (first | refine blk_drewN ?_ _ | refine blk_drew ?_ | refine blk_alloc ?_ _)); exact BK102.out⟩, ⟨by repeat (first | (with_reducible first | exact HB.out | apply below_alloc | apply pw_below_drewN | apply below_drew1 | refine below_set ?_ GE101.out | refine below_set ?_ GE102.out | refine below_set ?_ GE105.out) | exact HB.out)⟩⟩
                      · rw [if_neg c15] at H
                        exact absurd H (by simp)
                    · rw [if_neg c14] at H
                      exact absurd H (by simp)
                  · rw [if_neg c13] at H
                    exact absurd H (by simp)
                · rw [if_neg c12] at H
                  have c12b0 : decide (x27_2 < ((rd_L4 l0 x20_1).length : Int)) = false := decide_eq_false c12
                  clear c12
                  have H' := Aside0.mk H
                  clear H
                  go_wp2
                  go_roundg k2
                  case measure => have := HK1.out; have := HK2.out; omega
                  case rel => exact ⟨(wrap64 (x20_1 + 1)), (x103004_2), (u103004), (by first | rfl | (simp; done) | (simp [*]; done)), H', ⟨by have := HK1.out; have := HK2.out; omega⟩, ⟨by (with_reducible repeat (first | apply Kd.R_alloc | apply Kd.R_drewN | apply Kd.R_drew)); exact HO_103004.out⟩, ⟨by (with_reducible repeat (first | refine blk_drewN ?_ _ | refine blk_drew ?_ | refine blk_alloc ?_ _)); exact BK101.out⟩, ⟨by (with_reducible repeat (first | refine blk_drewN ?_ _ | refine blk_drew ?_ | refine blk_alloc ?_ _)); exact BK102.out⟩, ⟨by repeat (first | (with_reducible first | exact HB.out | apply below_alloc | apply pw_below_drewN | apply below_drew1 | refine below_set ?_ GE101.out | refine below_set ?_ GE102.out) | exact HB.out)⟩⟩
          · rw [if_neg c11] at H
            exact absurd H (by simp)
        · rw [if_neg c10] at H
          exact absurd H (by simp)
      · rw [if_neg c9] at H
        have c9b0 : decide (x20_1 < (l0.length : Int)) = false := decide_eq_false c9
        clear c9
        simp only [Option.some.injEq, Prod.mk.injEq] at H
        obtain ⟨rfl, rfl, rfl, rfl, rfl⟩ := H
        have hnb25 := NB102_101.out
        have hnc25 := NB101_102.out
        have hcz26_0 : wr.cell? ⟨gb102, 0, none⟩ = some (.int .i64 a1) := (blk_cell BK102.out 0).trans rfl
        have hcz26_1 : wr.cell? ⟨gb102, 1, none⟩ = some (.int .i64 a2) := (blk_cell BK102.out 1).trans rfl
        have hcz26_2 : wr.cell? ⟨gb102, 2, none⟩ = some (.int .u64 a3) := (blk_cell BK102.out 2).trans rfl
        have hcz26_3 : wr.cell? ⟨gb102, 3, none⟩ = some (.slice none 0 0) := (blk_cell BK102.out 3).trans rfl
        have hcz26_4 : wr.cell? ⟨gb102, 4, none⟩ = some (u103004) := (blk_cell BK102.out 4).trans rfl
        have hfz26_0 := blk_frozen BK102.out 0
        have hfz26_1 := blk_frozen BK102.out 1
        have hfz26_2 := blk_frozen BK102.out 2
        have hfz26_3 := blk_frozen BK102.out 3
        have hfz26_4 := blk_frozen BK102.out 4
        have hcz27_0 : wr.cell? ⟨gb101, 0, none⟩ = some (.int .i64 0) := (blk_cell BK101.out 0).trans rfl
        have hcz27_1 : wr.cell? ⟨gb101, 1, none⟩ = some (.int .i64 0) := (blk_cell BK101.out 1).trans rfl
        have hcz27_2 : wr.cell? ⟨gb101, 2, none⟩ = some (.int .u64 0) := (blk_cell BK101.out 2).trans rfl
        have hcz27_3 : wr.cell? ⟨gb101, 3, none⟩ = some (.slice none 0 0) := (blk_cell BK101.out 3).trans rfl
        have hcz27_4 : wr.cell? ⟨gb101, 4, none⟩ = some (.slice none 0 0) := (blk_cell BK101.out 4).trans rfl
        have hfz27_0 := blk_frozen BK101.out 0
        have hfz27_1 := blk_frozen BK101.out 1
        have hfz27_2 := blk_frozen BK101.out 2
        have hfz27_3 := blk_frozen BK101.out 3
        have hfz27_4 := blk_frozen BK101.out 4
        obtain ⟨Ao28, co28, eo28⟩ := Kd.R_slice HO_103004.out
        subst eo28
        go_wp2
        refine bodyPost_ret (results_cell_row rfl _ _ gb101 31 #[.int .i64 a1, .int .i64 a2, .int .u64 a3, .slice none 0 0, .slice Ao28 x103004_1.length co28] (0, 0) _ rfl (by (with_reducible repeat (first | refine blk_drewN ?_ _ | refine blk_drew ?_ | refine blk_alloc ?_ _)); refine blk_put (cs := #[.int .i64 a1, .int .i64 a2, .int .u64 a3, .slice none 0 0, .slice none 0 0]) ?_ 4 _ rfl; (with_reducible repeat (first | refine blk_drewN ?_ _ | refine blk_drew ?_ | refine blk_alloc ?_ _)); refine blk_put (cs := #[.int .i64 a1, .int .i64 a2, .int .u64 a3, .slice none 0 0, .slice none 0 0]) ?_ 3 _ rfl; (with_reducible repeat (first | refine blk_drewN ?_ _ | refine blk_drew ?_ | refine blk_alloc ?_ _)); refine blk_put (cs := #[.int .i64 a1, .int .i64 a2, .int .u64 0, .slice none 0 0, .slice none 0 0]) ?_ 2 _ rfl; (with_reducible repeat (first | refine blk_drewN ?_ _ | refine blk_drew ?_ | refine blk_alloc ?_ _)); refine blk_put (cs := #[.int .i64 a1, .int .i64 0, .int .u64 0, .slice none 0 0, .slice none 0 0]) ?_ 1 _ rfl; (with_reducible repeat (first | refine blk_drewN ?_ _ | refine blk_drew ?_ | refine blk_alloc ?_ _)); refine blk_put (cs := #[.int .i64 0, .int .i64 0, .int .u64 0, .slice none 0 0, .slice none 0 0]) ?_ 0 _ rfl; (with_reducible repeat (first | refine blk_drewN ?_ _ | refine blk_drew ?_ | refine blk_alloc ?_ _)); exact BK101.out) Try.underlying31 rfl (by kernel_rfl)) rfl ?_
        exact ⟨_, _, by first | rfl | (simp [errW_none, errW_some] <;> rfl) | (simp [*, errW_none, errW_some] <;> rfl), by first | exact Kd.R_nil _ _ _ _ _ | exact Kd.N_nil _ _ _ _ _ | exact Kd.V_nil _ _ _ _ _ | exact Kd.Q_nil _ _ _ _ _ | exact Kd.S_nil _ _ _ _ _, by (with_reducible repeat (first | apply Kd.R_alloc | apply Kd.R_drewN | apply Kd.R_drew)); exact Kd.R_mono (Kd.R_far (p := ⟨gb101, 4, none⟩) (Kd.R_far (p := ⟨gb101, 3, none⟩) (Kd.R_far (p := ⟨gb101, 2, none⟩) (Kd.R_far (p := ⟨gb101, 1, none⟩) (Kd.R_far (p := ⟨gb101, 0, none⟩) (Kd.R_types HO_103004.out BK101.out (by decide)) (fun _ hk => hk.2) (.int .i64 a1)) (fun _ hk => hk.2) (.int .i64 a2)) (fun _ hk => hk.2) (.int .u64 a3)) (fun _ hk => hk.2) (.slice none 0 0)) (fun _ hk => hk.2) (.slice Ao28 x103004_1.length co28)) (fun _ hk => trivial), by repeat (first | (with_reducible first | exact HB.out | apply below_alloc | apply pw_below_drewN | apply below_drew1 | refine below_set ?_ GE101.out | refine below_set ?_ GE102.out) | exact HB.out)⟩

end Go.Proofs.Ytppldgbgdgeegaa.G

/- Printed by the session's program over the kit's print, out of the translation: functions as plain Lean functions, and the proofs that the calls come to them. -/
namespace Go.Proofs.Ytppldgbgdgeegaa.G
open Go.RowKit Go.Proofs.YtppldgbgdgeegaaW.PrintWords Go.Proofs.YtppldgbgdgeegaaW.PrintLast Go.Proofs.YtppldgbgdgeegaaW.PrintMore
attribute [local go_sem] max2_int min2_int max_two min_two max_three min_three max_four min_four   -- for this text's walks alone
set_option linter.unusedVariables false
set_option linter.unusedSimpArgs false

/-! ### moraineref15_Whole: function 7 -/
mutual
def moraineref15_Whole.l0 : Nat → List (List (S36)) → Int → Int → Int → Int → List (S43) → Option (Int × Int × Int × (List (S45)) × (List (S43)))
  | 0, _, _, _, _, _, _ => none
  | k + 1, x0, x10, x111000, x111001, x111002, x111004 => if x10 < (x0.length : Int) then (moraineref15_Whole.l1 k x0 x10 0 x111000 x111001 x111002 x111004) else (some (x111000, x111001, x111002, ([] : List (S45)), x111004))
def moraineref15_Whole.l1 : Nat → List (List (S36)) → Int → Int → Int → Int → Int → List (S43) → Option (Int × Int × Int × (List (S45)) × (List (S43)))
  | 0, _, _, _, _, _, _, _ => none
  | k + 1, x0, x10, x11, x111000, x111001, x111002, x111004 => if 0 ≤ x10 then (if x10 < (x0.length : Int) then (if x11 < ((rd_L4 x0 x10).length : Int) then (if 0 ≤ x11 then (if x111004.length < 1954687338268 then (moraineref15_Whole.l1 k x0 x10 (wrap64 (x11 + 1)) x111000 x111001 x111002 (x111004 ++ [(⟨x10, (⟨(rd_T36 (rd_L4 x0 x10) x11).f0, (rd_T36 (rd_L4 x0 x10) x11).f1, (rd_T36 (rd_L4 x0 x10) x11).f2, (rd_T36 (rd_L4 x0 x10) x11).f3, (rd_T36 (rd_L4 x0 x10) x11).f4, (rd_T36 (rd_L4 x0 x10) x11).f5⟩ : S36)⟩ : S43)])) else (none)) else (none)) else (moraineref15_Whole.l0 k x0 (wrap64 (x10 + 1)) x111000 x111001 x111002 x111004)) else (none)) else (none)
end
def moraineref15_Whole.f (k : Nat) (l0 : List (List (S36))) (a1 : Int) (a2 : Int) (a3 : Int) : Option (Int × Int × Int × (List (S45)) × (List (S43))) := moraineref15_Whole.l0 k l0 0 a1 a2 a3 ([] : List (S43))
theorem moraineref15_Whole.mono_l : ∀ k, (∀ y0 y1 y2 y3 y4 y5, LeO (moraineref15_Whole.l0 k y0 y1 y2 y3 y4 y5) (moraineref15_Whole.l0 (k + 1) y0 y1 y2 y3 y4 y5)) ∧ (∀ y0 y1 y2 y3 y4 y5 y6, LeO (moraineref15_Whole.l1 k y0 y1 y2 y3 y4 y5 y6) (moraineref15_Whole.l1 (k + 1) y0 y1 y2 y3 y4 y5 y6))
  | 0 => ⟨fun _ _ _ _ _ _ r h => by simp [moraineref15_Whole.l0] at h, fun _ _ _ _ _ _ _ r h => by simp [moraineref15_Whole.l1] at h⟩
  | k + 1 => by
    obtain ⟨ih0, ih1⟩ := moraineref15_Whole.mono_l k
    refine ⟨?_, ?_⟩
    · intro y0 y1 y2 y3 y4 y5
      unfold moraineref15_Whole.l0
      repeat' first
      | (with_reducible exact ih0 _ _ _ _ _ _)
      | (with_reducible exact ih1 _ _ _ _ _ _ _)
      | (with_reducible exact LeO.refl _)
      | (with_reducible exact LeO.none _)
      | (with_reducible refine LeO.ite ?_ ?_)
      | (with_reducible refine LeO.bind ?_ (fun _ => ?_))
      | exact ih0 _ _ _ _ _ _
      | exact ih1 _ _ _ _ _ _ _
      | exact LeO.none _
      | refine LeO.ite ?_ ?_
      | refine LeO.bind ?_ (fun _ => ?_)
    · intro y0 y1 y2 y3 y4 y5 y6
      unfold moraineref15_Whole.l1
      repeat' first
      | (with_reducible exact ih0 _ _ _ _ _ _)
      | (with_reducible exact ih1 _ _ _ _ _ _ _)
      | (with_reducible exact LeO.refl _)
      | (with_reducible exact LeO.none _)
      | (with_reducible refine LeO.ite ?_ ?_)
      | (with_reducible refine LeO.bind ?_ (fun _ => ?_))
      | exact ih0 _ _ _ _ _ _
      | exact ih1 _ _ _ _ _ _ _
      | exact LeO.none _
      | refine LeO.ite ?_ ?_
      | refine LeO.bind ?_ (fun _ => ?_)
theorem moraineref15_Whole.mono : ∀ a0 a1 a2 a3 k, LeO (moraineref15_Whole.f k a0 a1 a2 a3) (moraineref15_Whole.f (k + 1) a0 a1 a2 a3) := by
  intro a0 a1 a2 a3 k
  obtain ⟨ih0, ih1⟩ := moraineref15_Whole.mono_l k
  unfold moraineref15_Whole.f
  repeat' first
      | (with_reducible exact ih0 _ _ _ _ _ _)
      | (with_reducible exact ih1 _ _ _ _ _ _ _)
      | (with_reducible exact LeO.refl _)
      | (with_reducible exact LeO.none _)
      | (with_reducible refine LeO.ite ?_ ?_)
      | (with_reducible refine LeO.bind ?_ (fun _ => ?_))
      | exact ih0 _ _ _ _ _ _
      | exact ih1 _ _ _ _ _ _ _
      | exact LeO.none _
      | refine LeO.ite ?_ ?_
      | refine LeO.bind ?_ (fun _ => ?_)
def moraineref15_Whole.T8 : Bool × List (List Nat × List Nat) := (true, [([], []), ([0], [0]), ([], []), ([], []), ([], []), ([3, 4], [3, 4]), ([5], [5]), ([], []), ([6, 7], [6, 7]), ([8], [8]), ([2, 9], [2, 9]), ([10], [10]), ([1, 11], [1, 11]), ([0, 1, 2, 3, 4, 5, 6, 7, 8, 9, 10, 11, 12], []), ([13, 12, 12, 0, 1, 2, 3, 4, 5, 6, 7, 8, 9, 10, 11, 12], [12, 13])])
def moraineref15_Whole.B8 : List Nat := [0, 1, 0, 0, 0, 24, 56, 0, 248, 504, 1020, 2044, 4095, 8191, 16383]
theorem moraineref15_Whole.tab8 : rtab .any (opsOf Try.f7 8) = moraineref15_Whole.T8 := by kernel_rfl
theorem moraineref15_Whole.bits8 : waitsOk moraineref15_Whole.T8.2 moraineref15_Whole.B8 = true := by kernel_rfl
set_option maxHeartbeats 8000000 in
set_option maxRecDepth 100000 in
theorem moraineref15_Whole.calls (k : Nat) (A0 : Option Addr) (c0 : Nat) (l0 : List (List (S36))) (a1 : Int) (a2 : Int) (a3 : Int) (r1 : Int) (r2 : Int) (r3 : Int) (r4 : List (S45)) (r5 : List (S43)) (w : World) (hr0 : Kd.C (Kd.slice 36 k36) w A0 l0.length l0) (hc0 : l0.length ≤ c0) (h : moraineref15_Whole.f k l0 a1 a2 a3 = some (r1, r2, r3, r4, r5)) :
    Calls Try.prog 7 #[.slice A0 l0.length c0, .int .i64 a1, .int .i64 a2, .int .u64 a3] w fun e w' => ∃ v3_ v4_ : Value, e = .returned (.agg #[.int .i64 r1, .int .i64 r2, .int .u64 r3, v3_, v4_]) ∧ Kd.R k45 45 w' w.heap.size (fun _ => True) v3_ r4 ∧ Kd.R k43 43 w' w.heap.size (fun _ => True) v4_ r5 ∧ Below w.heap.size w w' := by
  have hu31 := Try.underlying31
  have hu36 := Try.underlying36
  have hu43 := Try.underlying43
  have HR0 := Aside0.mk hr0
  have HC0 := Aside0.mk hc0
  clear hr0 hc0
  have HB := Aside0.mk (Below.refl w.heap.size w)
  have H : (moraineref15_Whole.l0 k l0 0 a1 a2 a3 ([] : List (S43))) = some (r1, r2, r3, r4, r5) := h
  clear h
  have H' := Aside0.mk H
  clear H
  go_enter Try.func7, Try.ntmps7
  go_wp2_with (first | ((with_reducible refine gate_dst (N := 8) rfl ?_); refine box_event ?hg (N := 8) ?hd (cs := #[.int .i64 0, .int .i64 0, .int .u64 0, .slice none 0 0, .slice none 0 0]) (t := 31) ?hr ?_; (case hd => rfl); (case hg => rfl); (case hr => first | (go_simp; done) | (go_simp; rfl)); intro gb109 hg w5 hbox hb; have n0_ := Aside0.mk (below_step (by repeat (first | (with_reducible first | exact HB.out | apply below_alloc | apply pw_below_drewN | apply below_drew1) | exact HB.out)) hb); have n1_ := Aside0.mk (hbox); have n2_ := Aside0.mk ((by rw [hg]; exact (below_size (by repeat (first | (with_reducible first | exact HB.out | apply below_alloc | apply pw_below_drewN | apply below_drew1) | exact HB.out))) : w.heap.size ≤ gb109)); have n3_ := Aside0.mk ((by rw [hg]; exact (below_size (by repeat (first | (with_reducible first | exact HB.out | apply below_alloc | apply pw_below_drewN | apply below_drew1) | exact HB.out))) : w.heap.size ≤ gb109)); clear HB; have HB := n0_; have BK109 := n1_; have GW109 := n2_; have GE109 := n3_; clear n0_ n1_ n2_ n3_; clear hb hbox hg) | ((with_reducible refine gate_dst (N := 9) rfl ?_); refine box_event ?hg (N := 9) ?hd (cs := #[.int .i64 0, .int .i64 0, .int .u64 0, .slice none 0 0, .slice none 0 0]) (t := 31) ?hr ?_; (case hd => rfl); (case hg => rfl); (case hr => first | (go_simp; done) | (go_simp; rfl)); intro gb110 hg w6 hbox hb; have n0_ := Aside0.mk (blk_below (g := gb109) (o := .cells #[.int .i64 0, .int .i64 0, .int .u64 0, .slice none 0 0, .slice none 0 0] 31 (0, 0)) (by (with_reducible repeat (first | refine blk_drewN ?_ _ | refine blk_drew ?_ | refine blk_alloc ?_ _)); exact BK109.out) hb); have n1_ := Aside0.mk (below_step (by repeat (first | (with_reducible first | exact HB.out | apply below_alloc | apply pw_below_drewN | apply below_drew1 | refine below_set ?_ GE109.out) | exact HB.out)) hb); have n2_ := Aside0.mk (hbox); have n3_ := Aside0.mk ((by rw [hg]; exact (below_size (by repeat (first | (with_reducible first | exact HB.out | apply below_alloc | apply pw_below_drewN | apply below_drew1 | refine below_set ?_ GE109.out) | exact HB.out))) : w.heap.size ≤ gb110)); have n4_ := Aside0.mk ((by rw [hg]; exact (below_size (by repeat (first | (with_reducible first | exact HB.out | apply below_alloc | apply pw_below_drewN | apply below_drew1 | refine below_set ?_ GE109.out) | exact HB.out))) : w.heap.size ≤ gb110)); have n5_ := Aside0.mk ((by rw [hg]; exact Nat.ne_of_lt (blk_lt (g := gb109) (o := .cells #[.int .i64 0, .int .i64 0, .int .u64 0, .slice none 0 0, .slice none 0 0] 31 (0, 0)) (by (with_reducible repeat (first | refine blk_drewN ?_ _ | refine blk_drew ?_ | refine blk_alloc ?_ _)); exact BK109.out)) : gb109 ≠ gb110)); have n6_ := Aside0.mk ((by rw [hg]; exact Nat.ne_of_gt (blk_lt (g := gb109) (o := .cells #[.int .i64 0, .int .i64 0, .int .u64 0, .slice none 0 0, .slice none 0 0] 31 (0, 0)) (by (with_reducible repeat (first | refine blk_drewN ?_ _ | refine blk_drew ?_ | refine blk_alloc ?_ _)); exact BK109.out)) : gb110 ≠ gb109)); clear BK109; clear HB; have BK109 := n0_; have HB := n1_; have BK110 := n2_; have GW110 := n3_; have GE110 := n4_; have NB109_110 := n5_; have NB110_109 := n6_; clear n0_ n1_ n2_ n3_ n4_ n5_ n6_; clear hb hbox hg; have hnb7 := NB110_109.out; have hnc7 := NB109_110.out; have hcz8_0 : w6.cell? ⟨gb110, 0, none⟩ = some (.int .i64 0) := (blk_cell BK110.out 0).trans rfl; have hcz8_1 : w6.cell? ⟨gb110, 1, none⟩ = some (.int .i64 0) := (blk_cell BK110.out 1).trans rfl; have hcz8_2 : w6.cell? ⟨gb110, 2, none⟩ = some (.int .u64 0) := (blk_cell BK110.out 2).trans rfl; have hcz8_3 : w6.cell? ⟨gb110, 3, none⟩ = some (.slice none 0 0) := (blk_cell BK110.out 3).trans rfl; have hcz8_4 : w6.cell? ⟨gb110, 4, none⟩ = some (.slice none 0 0) := (blk_cell BK110.out 4).trans rfl; have hfz8_0 := blk_frozen BK110.out 0; have hfz8_1 := blk_frozen BK110.out 1; have hfz8_2 := blk_frozen BK110.out 2; have hfz8_3 := blk_frozen BK110.out 3; have hfz8_4 := blk_frozen BK110.out 4))
  go_loopg [10] k (fun kq v10 w' => ∃ (x10_1 : Int) (x111004_1 : List (S43)) (u111004 : Value), v10 = .int .i64 x10_1 ∧ Aside0 (moraineref15_Whole.l0 kq l0 x10_1 a1 a2 a3 x111004_1 = some (r1, r2, r3, r4, r5)) ∧ Aside0 (kq ≤ k) ∧ Aside0 (Kd.R k43 43 w' w.heap.size (fun _ => True) u111004 x111004_1) ∧ Aside0 (w'.heap[gb109]? = some (.cells #[.int .i64 0, .int .i64 0, .int .u64 0, (.slice none 0 0), (.slice none 0 0)] 31 (0, 0))) ∧ Aside0 (w'.heap[gb110]? = some (.cells #[.int .i64 a1, .int .i64 a2, .int .u64 a3, (.slice none 0 0), u111004] 31 (0, 0))) ∧ Aside0 (Below w.heap.size w w'))
  case atStart => exact ⟨(0), (([] : List (S43))), (.slice none 0 0), (by first | rfl | (simp; done) | (simp [*]; done)), H', ⟨Nat.le_refl _⟩, ⟨by first | exact Kd.R_nil _ _ _ _ _ | exact Kd.N_nil _ _ _ _ _ | exact Kd.V_nil _ _ _ _ _ | exact Kd.Q_nil _ _ _ _ _ | exact Kd.S_nil _ _ _ _ _⟩, ⟨by (with_reducible repeat (first | refine blk_drewN ?_ _ | refine blk_drew ?_ | refine blk_alloc ?_ _)); refine blk_far ?_ NB109_110.out _; (with_reducible repeat (first | refine blk_drewN ?_ _ | refine blk_drew ?_ | refine blk_alloc ?_ _)); refine blk_far ?_ NB109_110.out _; (with_reducible repeat (first | refine blk_drewN ?_ _ | refine blk_drew ?_ | refine blk_alloc ?_ _)); refine blk_far ?_ NB109_110.out _; (with_reducible repeat (first | refine blk_drewN ?_ _ | refine blk_drew ?_ | refine blk_alloc ?_ _)); refine blk_far ?_ NB109_110.out _; (with_reducible repeat (first | refine blk_drewN ?_ _ | refine blk_drew ?_ | refine blk_alloc ?_ _)); refine blk_far ?_ NB109_110.out _; (with_reducible repeat (first | refine blk_drewN ?_ _ | refine blk_drew ?_ | refine blk_alloc ?_ _)); exact BK109.out⟩, ⟨by (with_reducible repeat (first | refine blk_drewN ?_ _ | refine blk_drew ?_ | refine blk_alloc ?_ _)); refine blk_put (cs := #[.int .i64 a1, .int .i64 a2, .int .u64 a3, .slice none 0 0, .slice none 0 0]) ?_ 4 _ rfl; (with_reducible repeat (first | refine blk_drewN ?_ _ | refine blk_drew ?_ | refine blk_alloc ?_ _)); refine blk_put (cs := #[.int .i64 a1, .int .i64 a2, .int .u64 a3, .slice none 0 0, .slice none 0 0]) ?_ 3 _ rfl; (with_reducible repeat (first | refine blk_drewN ?_ _ | refine blk_drew ?_ | refine blk_alloc ?_ _)); refine blk_put (cs := #[.int .i64 a1, .int .i64 a2, .int .u64 0, .slice none 0 0, .slice none 0 0]) ?_ 2 _ rfl; (with_reducible repeat (first | refine blk_drewN ?_ _ | refine blk_drew ?_ | refine blk_alloc ?_ _)); refine blk_put (cs := #[.int .i64 a1, .int .i64 0, .int .u64 0, .slice none 0 0, .slice none 0 0]) ?_ 1 _ rfl; (with_reducible repeat (first | refine blk_drewN ?_ _ | refine blk_drew ?_ | refine blk_alloc ?_ _)); refine blk_put (cs := #[.int .i64 0, .int .i64 0, .int .u64 0, .slice none 0 0, .slice none 0 0]) ?_ 0 _ rfl; (with_reducible repeat (first | refine blk_drewN ?_ _ | refine blk_drew ?_ | refine blk_alloc ?_ _)); exact BK110.out⟩, ⟨by repeat (first | (with_reducible first | exact HB.out | apply below_alloc | apply pw_below_drewN | apply below_drew1 | refine below_set ?_ GE109.out | refine below_set ?_ GE110.out) | exact HB.out)⟩⟩
  case round =>
    clear H'
    try clear p2
    try clear c7
    try clear hcz8_0
    try clear hcz8_1
    try clear hcz8_2
    try clear hcz8_3
    try clear hcz8_4
    try clear hfz8_0
    try clear hfz8_1
    try clear hfz8_2
    try clear hfz8_3
    try clear hfz8_4
    obtain ⟨x10_1, x111004_1, u111004, rfl, HA, HK1, HO_111004, BK109, BK110, HB⟩ := hrel
    cases gk with
    | zero => exact absurd HA.out (by simp [moraineref15_Whole.l0])
    | succ k1 =>
      have H := HA.out
      clear HA
      simp only [moraineref15_Whole.l0] at H
      by_cases c9 : x10_1 < (l0.length : Int)
      · rw [if_pos c9] at H
        have c9b0 : decide (x10_1 < (l0.length : Int)) = true := decide_eq_true c9
        clear c9
        have H' := Aside0.mk H
        clear H
        go_wp2
        go_loopg [11] k1 (fun kq v11 w' => ∃ (x11_2 : Int) (x111004_2 : List (S43)) (u111004 : Value), v11 = .int .i64 x11_2 ∧ Aside0 (moraineref15_Whole.l1 kq l0 x10_1 x11_2 a1 a2 a3 x111004_2 = some (r1, r2, r3, r4, r5)) ∧ Aside0 (kq ≤ k1) ∧ Aside0 (Kd.R k43 43 w' w.heap.size (fun _ => True) u111004 x111004_2) ∧ Aside0 (w'.heap[gb109]? = some (.cells #[.int .i64 0, .int .i64 0, .int .u64 0, (.slice none 0 0), (.slice none 0 0)] 31 (0, 0))) ∧ Aside0 (w'.heap[gb110]? = some (.cells #[.int .i64 a1, .int .i64 a2, .int .u64 a3, (.slice none 0 0), u111004] 31 (0, 0))) ∧ Aside0 (Below w.heap.size w w'))
        case atStart => exact ⟨(0), (x111004_1), (u111004), (by first | rfl | (simp; done) | (simp [*]; done)), H', ⟨Nat.le_refl _⟩, ⟨by (with_reducible repeat (first | apply Kd.R_alloc | apply Kd.R_drewN | apply Kd.R_drew)); exact HO_111004.out⟩, ⟨by (with_reducible repeat (first | refine blk_drewN ?_ _ | refine blk_drew ?_ | refine blk_alloc ?_ _)); exact BK109.out⟩, ⟨by (with_reducible repeat (first | refine blk_drewN ?_ _ | refine blk_drew ?_ | refine blk_alloc ?_ _)); exact BK110.out⟩, ⟨by repeat (first | (with_reducible first | exact HB.out | apply below_alloc | apply pw_below_drewN | apply below_drew1 | refine below_set ?_ GE109.out | refine below_set ?_ GE110.out) | exact HB.out)⟩⟩
        case round =>
          clear H'
          try clear p2
          try clear c7
          try clear c9
          try clear c9b0
          try clear hcz8_0
          try clear hcz8_1
          try clear hcz8_2
          try clear hcz8_3
          try clear hcz8_4
          try clear hfz8_0
          try clear hfz8_1
          try clear hfz8_2
          try clear hfz8_3
          try clear hfz8_4
          try clear p2
          obtain ⟨x11_2, x111004_2, u111004, rfl, HA, HK2, HO_111004, BK109, BK110, HB⟩ := hrel
          cases gk with
          | zero => exact absurd HA.out (by simp [moraineref15_Whole.l1])
          | succ k2 =>
            have H := HA.out
            clear HA
            simp only [moraineref15_Whole.l1] at H
            by_cases c10 : 0 ≤ x10_1
            · rw [if_pos c10] at H
              have c10b0 : decide (0 ≤ x10_1) = true := decide_eq_true c10
              clear c10
              by_cases c11 : x10_1 < (l0.length : Int)
              · rw [if_pos c11] at H
                have c11b0 : decide (x10_1 < (l0.length : Int)) = true := decide_eq_true c11
                clear c11
                by_cases c12 : x11_2 < ((rd_L4 l0 x10_1).length : Int)
                · rw [if_pos c12] at H
                  have c12b0 : decide (x11_2 < ((rd_L4 l0 x10_1).length : Int)) = true := decide_eq_true c12
                  clear c12
                  by_cases c13 : 0 ≤ x11_2
                  · rw [if_pos c13] at H
                    have c13b0 : decide (0 ≤ x11_2) = true := decide_eq_true c13
                    clear c13
                    by_cases c14 : x111004_2.length < 1954687338268
                    · rw [if_pos c14] at H
                      have LMc14 := Aside0.mk c14
                      clear c14
                      obtain ⟨y114, hy114⟩ : ∃ y_ : List (S43), y_ = (x111004_2 ++ [(⟨x10_1, (⟨(rd_T36 (rd_L4 l0 x10_1) x11_2).f0, (rd_T36 (rd_L4 l0 x10_1) x11_2).f1, (rd_T36 (rd_L4 l0 x10_1) x11_2).f2, (rd_T36 (rd_L4 l0 x10_1) x11_2).f3, (rd_T36 (rd_L4 l0 x10_1) x11_2).f4, (rd_T36 (rd_L4 l0 x10_1) x11_2).f5⟩ : S36)⟩ : S43)]) := ⟨_, rfl⟩
                      replace H : (moraineref15_Whole.l1 k2 l0 x10_1 (wrap64 (x11_2 + 1)) a1 a2 a3 y114) = some (r1, r2, r3, r4, r5) := by first | (rw [hy114]; with_reducible exact H) | (have H2_ := (Option.bind_some _ _).symm.trans H; rw [hy114]; with_reducible exact H2_) | (have H2_ := (Option.bind_some _ _).symm.trans H; with_reducible exact H2_) | with_reducible exact H | (rw [hy114]; exact H) | exact H
                      have Ny114 := Aside0.mk hy114
                      clear hy114
                      have H' := Aside0.mk H
                      clear H
                      have p111 : 0 ≤ (x10_1 : Int) := of_decide_eq_true (by first | (with_reducible assumption) | assumption)
                      have q111 : x10_1 < (l0.length : Int) := of_decide_eq_true (by first | (with_reducible assumption) | assumption)
                      obtain ⟨ad111, A111_0, c111_0, e111, hx111_0, hl111_0, hi111_0⟩ := at_L4 HR0.out x10_1 p111 q111
                      cases e111
                      replace hx111_0 := (HB.out.cell (World.block_lt_of_cell? w _ hx111_0)).trans hx111_0
                      have HR111_0 := Aside0.mk hi111_0
                      have HC111_0 := Aside0.mk hl111_0
                      clear hi111_0 hl111_0
                      replace p111 := eq_true p111
                      replace q111 := eq_true q111
                      try go_wp2
                      have n0_ := Aside0.mk (Kd.R_drew HO_111004.out)
                      have n1_ := Aside0.mk (blk_drew BK109.out)
                      have n2_ := Aside0.mk (blk_drew BK110.out)
                      have n3_ := Aside0.mk (below_drew1 HB.out)
                      clear HO_111004
                      clear BK109
                      clear BK110
                      clear HB
                      have HO_111004 := n0_
                      have BK109 := n1_
                      have BK110 := n2_
                      have HB := n3_
                      clear n0_ n1_ n2_ n3_
                      have p112 : 0 ≤ (x10_1 : Int) := of_decide_eq_true (by first | (with_reducible assumption) | assumption)
                      have q112 : x10_1 < (l0.length : Int) := of_decide_eq_true (by first | (with_reducible assumption) | assumption)
                      obtain ⟨ad112, A112_0, c112_0, e112, hx112_0, hl112_0, hi112_0⟩ := at_L4 HR0.out x10_1 p112 q112
                      have hw112_0 := hx112_0
                      obtain rfl : ad111 = ad112 := (by injection e112)
                      replace hx112_0 := (HB.out.cell (World.block_lt_of_cell? w _ hx112_0)).trans hx112_0
                      have HR112_0 := Aside0.mk hi112_0
                      have HC112_0 := Aside0.mk hl112_0
                      clear hi112_0 hl112_0
                      replace p112 := eq_true p112
                      replace q112 := eq_true q112
                      have p113 : 0 ≤ (x11_2 : Int) := of_decide_eq_true (by first | (with_reducible assumption) | assumption)
                      have q113 : x11_2 < ((rd_L4 l0 x10_1).length : Int) := of_decide_eq_true (by first | (with_reducible assumption) | assumption)
                      obtain ⟨ad113, e113, hx113_0, hx113_1, hx113_2, hx113_3, hx113_4, hx113_5⟩ := at_T36 HR112_0.out x11_2 p113 q113
                      have hw113_5 := hx113_5
                      have hw113_4 := hx113_4
                      have hw113_3 := hx113_3
                      have hw113_2 := hx113_2
                      have hw113_1 := hx113_1
                      have hw113_0 := hx113_0
                      cases e113
                      replace hx113_0 := (HB.out.cell (World.block_lt_of_cell? w _ hx113_0)).trans hx113_0
                      replace hx113_1 := (HB.out.cell (World.block_lt_of_cell? w _ hx113_1)).trans hx113_1
                      replace hx113_2 := (HB.out.cell (World.block_lt_of_cell? w _ hx113_2)).trans hx113_2
                      replace hx113_3 := (HB.out.cell (World.block_lt_of_cell? w _ hx113_3)).trans hx113_3
                      replace hx113_4 := (HB.out.cell (World.block_lt_of_cell? w _ hx113_4)).trans hx113_4
                      replace hx113_5 := (HB.out.cell (World.block_lt_of_cell? w _ hx113_5)).trans hx113_5
                      replace p113 := eq_true p113
                      replace q113 := eq_true q113
                      refine start_ (n := 15) (S := fun w' => w'.cell? ⟨gb110, 0, none⟩ = some (.int .i64 a1) ∧ w'.cell? ⟨gb110, 1, none⟩ = some (.int .i64 a2) ∧ w'.cell? ⟨gb110, 2, none⟩ = some (.int .u64 a3) ∧ w'.cell? ⟨gb110, 3, none⟩ = some (.slice none 0 0) ∧ w'.cell? ⟨gb110, 4, none⟩ = some (u111004) ∧ w'.cell? (ad111.add (x10_1).toNat) = some (.slice (some ad113) (rd_L4 l0 x10_1).length c112_0) ∧ w'.cell? (ad113.add ((x11_2).toNat * 6)) = some (.int .i64 ((rd_T36 (rd_L4 l0 x10_1) x11_2).f0)) ∧ w'.cell? ⟨(ad113.add ((x11_2).toNat * 6)).block, (ad113.add ((x11_2).toNat * 6)).off + 1, none⟩ = some (.int .i64 ((rd_T36 (rd_L4 l0 x10_1) x11_2).f1)) ∧ w'.cell? ⟨(ad113.add ((x11_2).toNat * 6)).block, (ad113.add ((x11_2).toNat * 6)).off + 2, none⟩ = some (.string ((rd_T36 (rd_L4 l0 x10_1) x11_2).f2)) ∧ w'.cell? ⟨(ad113.add ((x11_2).toNat * 6)).block, (ad113.add ((x11_2).toNat * 6)).off + 3, none⟩ = some (.string ((rd_T36 (rd_L4 l0 x10_1) x11_2).f3)) ∧ w'.cell? ⟨(ad113.add ((x11_2).toNat * 6)).block, (ad113.add ((x11_2).toNat * 6)).off + 4, none⟩ = some (.int .u64 ((rd_T36 (rd_L4 l0 x10_1) x11_2).f4)) ∧ w'.cell? ⟨(ad113.add ((x11_2).toNat * 6)).block, (ad113.add ((x11_2).toNat * 6)).off + 5, none⟩ = some (.int .u64 ((rd_T36 (rd_L4 l0 x10_1) x11_2).f5))) (ds := [14]) #[false, false, false, false, false, false, false, false, false, false, false, false, false, false, false] (by kernel_rfl) rfl rfl ⟨(blk_cell BK110.out 0).trans rfl, (blk_cell BK110.out 1).trans rfl, (blk_cell BK110.out 2).trans rfl, (blk_cell BK110.out 3).trans rfl, (blk_cell BK110.out 4).trans rfl, ((HB.out.cell (World.block_lt_of_cell? w _ hw112_0)).trans hw112_0), ((HB.out.cell (World.block_lt_of_cell? w _ hw113_0)).trans hw113_0), ((HB.out.cell (World.block_lt_of_cell? w _ hw113_1)).trans hw113_1), ((HB.out.cell (World.block_lt_of_cell? w _ hw113_2)).trans hw113_2), ((HB.out.cell (World.block_lt_of_cell? w _ hw113_3)).trans hw113_3), ((HB.out.cell (World.block_lt_of_cell? w _ hw113_4)).trans hw113_4), ((HB.out.cell (World.block_lt_of_cell? w _ hw113_5)).trans hw113_5)⟩ (fun hHeld => ?_); refine with_tabW moraineref15_Whole.tab8 moraineref15_Whole.bits8 (fun HT_ HW_ => ?_)
                      generalize wr.drew = w15 at HO_111004 BK109 BK110 HB HR112_0 hx112_0 hx113_0 hx113_1 hx113_2 hx113_3 hx113_4 hx113_5 hHeld ⊢
                      refine pure_ (i := 0) (N := some 31) (v := ?_) (a' := ?_) #[true, false, false, false, false, false, false, false, false, false, false, false, false, false, false] rfl rfl (any_of HT_.out (by kernel_rfl)) (fun _ _ _ h => h) (Or.inl ⟨by rfl, ?_⟩) ?_ ?_
                      rotate_left
                      · intro w'
                        go_simp
                        with_reducible rfl
                      rotate_left
                      · simp only [Act.put, List.setIfInBounds_toArray, List.set_cons_zero, List.set_cons_succ, i64_w, i32_w]
                        rfl
                      refine pure_ (i := 2) (N := some 33) (v := ?_) (a' := ?_) #[true, false, true, false, false, false, false, false, false, false, false, false, false, false, false] rfl rfl (any_of HT_.out (by kernel_rfl)) (fun _ _ _ h => h) (Or.inl ⟨by rfl, ?_⟩) ?_ ?_
                      rotate_left
                      · intro w'
                        go_simp
                        with_reducible rfl
                      rotate_left
                      · simp only [Act.put, List.setIfInBounds_toArray, List.set_cons_zero, List.set_cons_succ, i64_w, i32_w]
                        rfl
                      refine pure_ (i := 3) (N := some 34) (v := ?_) (a' := ?_) #[true, false, true, true, false, false, false, false, false, false, false, false, false, false, false] rfl rfl (any_of HT_.out (by kernel_rfl)) (fun _ _ _ h => h) (Or.inl ⟨by rfl, ?_⟩) ?_ ?_
                      rotate_left
                      · intro w'
                        go_simp
                        with_reducible rfl
                      rotate_left
                      · simp only [Act.put, List.setIfInBounds_toArray, List.set_cons_zero, List.set_cons_succ, i64_w, i32_w]
                        rfl
                      refine pure_ (i := 4) (N := some 35) (v := ?_) (a' := ?_) #[true, false, true, true, true, false, false, false, false, false, false, false, false, false, false] rfl rfl (any_of HT_.out (by kernel_rfl)) (fun _ _ _ h => h) (Or.inl ⟨by rfl, ?_⟩) ?_ ?_
                      rotate_left
                      · intro w'
                        go_simp
                        with_reducible rfl
                      rotate_left
                      · simp only [Act.put, List.setIfInBounds_toArray, List.set_cons_zero, List.set_cons_succ, i64_w, i32_w]
                        rfl
                      refine pure_ (i := 5) (N := some 36) (v := ?_) (a' := ?_) #[true, false, true, true, true, true, false, false, false, false, false, false, false, false, false] rfl rfl (any_of HT_.out (by kernel_rfl)) (fun _ _ _ h => h) (Or.inl ⟨by rfl, ?_⟩) ?_ ?_
                      rotate_left
                      · intro w'
                        go_simp
                        with_reducible rfl
                      rotate_left
                      · simp only [Act.put, List.setIfInBounds_toArray, List.set_cons_zero, List.set_cons_succ, i64_w, i32_w]
                        rfl
                      refine pure_ (i := 7) (N := some 38) (v := ?_) (a' := ?_) #[true, false, true, true, true, true, false, true, false, false, false, false, false, false, false] rfl rfl (any_of HT_.out (by kernel_rfl)) (fun _ _ _ h => h) (Or.inl ⟨by rfl, ?_⟩) ?_ ?_
                      rotate_left
                      · intro w'
                        go_simp
                        with_reducible rfl
                      rotate_left
                      · simp only [Act.put, List.setIfInBounds_toArray, List.set_cons_zero, List.set_cons_succ, i64_w, i32_w]
                        rfl
                      refine take_ (i := 1) (N := some 32) (v := ?_) (a' := ?_) #[true, true, true, true, true, true, false, true, false, false, false, false, false, false, false] rfl rfl (take_ofW HT_.out HW_.out (by kernel_rfl)) (fun _ _ _ h => h) (Or.inl ⟨by rfl, ?_⟩) hHeld ?_ ?_
                      rotate_left
                      · rintro w' ⟨s0, s1, s2, s3, s4, s5, s6, s7, s8, s9, s10, s11⟩
                        go_simp
                        with_reducible rfl
                      rotate_left
                      · simp only [Act.put, List.setIfInBounds_toArray, List.set_cons_zero, List.set_cons_succ, i64_w, i32_w]
                        rfl
                      refine take_ (i := 6) (N := some 37) (v := ?_) (a' := ?_) #[true, true, true, true, true, true, true, true, false, false, false, false, false, false, false] rfl rfl (take_ofW HT_.out HW_.out (by kernel_rfl)) (fun _ _ _ h => h) (Or.inl ⟨by rfl, ?_⟩) hHeld ?_ ?_
                      rotate_left
                      · rintro w' ⟨s0, s1, s2, s3, s4, s5, s6, s7, s8, s9, s10, s11⟩
                        go_simp
                        with_reducible rfl
                      rotate_left
                      · simp only [Act.put, List.setIfInBounds_toArray, List.set_cons_zero, List.set_cons_succ, i64_w, i32_w]
                        rfl
                      refine pure_ (i := 8) (N := some 39) (v := ?_) (a' := ?_) #[true, true, true, true, true, true, true, true, true, false, false, false, false, false, false] rfl rfl (any_of HT_.out (by kernel_rfl)) (fun _ _ _ h => h) (Or.inl ⟨by rfl, ?_⟩) ?_ ?_
                      rotate_left
                      · intro w'
                        go_simp
                        with_reducible rfl
                      rotate_left
                      · simp only [Act.put, List.setIfInBounds_toArray, List.set_cons_zero, List.set_cons_succ, i64_w, i32_w]
                        rfl
                      refine take_ (i := 9) (N := some 40) (v := ?_) (a' := ?_) #[true, true, true, true, true, true, true, true, true, true, false, false, false, false, false] rfl rfl (take_ofW HT_.out HW_.out (by kernel_rfl)) (fun _ _ _ h => h) (Or.inl ⟨by rfl, ?_⟩) hHeld ?_ ?_
                      rotate_left
                      · rintro w' ⟨s0, s1, s2, s3, s4, s5, s6, s7, s8, s9, s10, s11⟩
                        go_simp
                        with_reducible rfl
                      rotate_left
                      · simp only [Act.put, List.setIfInBounds_toArray, List.set_cons_zero, List.set_cons_succ, i64_w, i32_w]
                        rfl
                      refine pure_ (i := 10) (N := some 41) (v := ?_) (a' := ?_) #[true, true, true, true, true, true, true, true, true, true, true, false, false, false, false] rfl rfl (any_of HT_.out (by kernel_rfl)) (fun _ _ _ h => h) (Or.inl ⟨by rfl, ?_⟩) ?_ ?_
                      rotate_left
                      · intro w'
                        go_simp
                        with_reducible rfl
                      rotate_left
                      · simp only [Act.put, List.setIfInBounds_toArray, List.set_cons_zero, List.set_cons_succ, i64_w, i32_w]
                        rfl
                      refine one_ (i := 11) (N := some 42) #[true, true, true, true, true, true, true, true, true, true, true, true, false, false, false] rfl rfl (one_of HT_.out (by kernel_rfl)) (by decide) (fun K hK => ?_)
                      refine value_ (w1 := ?_) (v := ?_) (by rfl) rfl ?_ ?_
                      rotate_left 2
                      · go_simp
                        constructor
                        · rfl
                        · rfl
                      refine hK.out _ _ ⟨(blk_cell (blk_alloc BK110.out _) 0).trans rfl, (blk_cell (blk_alloc BK110.out _) 1).trans rfl, (blk_cell (blk_alloc BK110.out _) 2).trans rfl, (blk_cell (blk_alloc BK110.out _) 3).trans rfl, (blk_cell (blk_alloc BK110.out _) 4).trans rfl, (World.cell?_alloc_lt _ _ _ (World.block_lt_of_cell? _ _ (((HB.out.cell (World.block_lt_of_cell? w _ hw112_0)).trans hw112_0)))).trans (((HB.out.cell (World.block_lt_of_cell? w _ hw112_0)).trans hw112_0)), (World.cell?_alloc_lt _ _ _ (World.block_lt_of_cell? _ _ (((HB.out.cell (World.block_lt_of_cell? w _ hw113_0)).trans hw113_0)))).trans (((HB.out.cell (World.block_lt_of_cell? w _ hw113_0)).trans hw113_0)), (World.cell?_alloc_lt _ _ _ (World.block_lt_of_cell? _ _ (((HB.out.cell (World.block_lt_of_cell? w _ hw113_1)).trans hw113_1)))).trans (((HB.out.cell (World.block_lt_of_cell? w _ hw113_1)).trans hw113_1)), (World.cell?_alloc_lt _ _ _ (World.block_lt_of_cell? _ _ (((HB.out.cell (World.block_lt_of_cell? w _ hw113_2)).trans hw113_2)))).trans (((HB.out.cell (World.block_lt_of_cell? w _ hw113_2)).trans hw113_2)), (World.cell?_alloc_lt _ _ _ (World.block_lt_of_cell? _ _ (((HB.out.cell (World.block_lt_of_cell? w _ hw113_3)).trans hw113_3)))).trans (((HB.out.cell (World.block_lt_of_cell? w _ hw113_3)).trans hw113_3)), (World.cell?_alloc_lt _ _ _ (World.block_lt_of_cell? _ _ (((HB.out.cell (World.block_lt_of_cell? w _ hw113_4)).trans hw113_4)))).trans (((HB.out.cell (World.block_lt_of_cell? w _ hw113_4)).trans hw113_4)), (World.cell?_alloc_lt _ _ _ (World.block_lt_of_cell? _ _ (((HB.out.cell (World.block_lt_of_cell? w _ hw113_5)).trans hw113_5)))).trans (((HB.out.cell (World.block_lt_of_cell? w _ hw113_5)).trans hw113_5))⟩ (fun hHeld => ?_)
                      clear hK K
                      refine norm_ (a' := ?_) ?_ ?_
                      rotate_left
                      · show Act.put _ (some 42) _ = _
                        simp only [Act.put, List.setIfInBounds_toArray, List.set_cons_zero, List.set_cons_succ, i64_w, i32_w]
                        rfl
                      refine one_ (i := 12) (N := some 43) #[true, true, true, true, true, true, true, true, true, true, true, true, true, false, false] rfl rfl (one_of HT_.out (by kernel_rfl)) (by decide) (fun K hK => ?_)
                      refine Kd.R_append_step k43 (w0 := w) w.heap.size (by rfl) (.tmp 32) (.tmp 42) 29 43 (.agg #[(.int .i64 0), (.int .i64 0), (.int .i64 0), (.string ⟨#[]⟩), (.string ⟨#[]⟩), (.int .u64 0), (.int .u64 0)]) 72 rfl Try.underlying29 info43 rfl (by decide) (by omega) u111004 x111004_2 (⟨x10_1, (⟨(rd_T36 (rd_L4 l0 x10_1) x11_2).f0, (rd_T36 (rd_L4 l0 x10_1) x11_2).f1, (rd_T36 (rd_L4 l0 x10_1) x11_2).f2, (rd_T36 (rd_L4 l0 x10_1) x11_2).f3, (rd_T36 (rd_L4 l0 x10_1) x11_2).f4, (rd_T36 (rd_L4 l0 x10_1) x11_2).f5⟩ : S36)⟩ : S43) [.int .i64 x10_1, .int .i64 ((rd_T36 (rd_L4 l0 x10_1) x11_2).f0), .int .i64 ((rd_T36 (rd_L4 l0 x10_1) x11_2).f1), .string ((rd_T36 (rd_L4 l0 x10_1) x11_2).f2), .string ((rd_T36 (rd_L4 l0 x10_1) x11_2).f3), .int .u64 ((rd_T36 (rd_L4 l0 x10_1) x11_2).f4), .int .u64 ((rd_T36 (rd_L4 l0 x10_1) x11_2).f5)] (fun _ => True) (fun _ => False) rfl rfl ?aP (fun _ hk => hk.elim) ?aF ?aO ?aB ?aS ?aL ?_
                      (case aP => exact k43_mkM _ _ _ (⟨x10_1, (⟨(rd_T36 (rd_L4 l0 x10_1) x11_2).f0, (rd_T36 (rd_L4 l0 x10_1) x11_2).f1, (rd_T36 (rd_L4 l0 x10_1) x11_2).f2, (rd_T36 (rd_L4 l0 x10_1) x11_2).f3, (rd_T36 (rd_L4 l0 x10_1) x11_2).f4, (rd_T36 (rd_L4 l0 x10_1) x11_2).f5⟩ : S36)⟩ : S43))
                      (case aB => exact (by repeat (first | (with_reducible first | exact HB.out | apply below_alloc | apply pw_below_drewN | apply below_drew1 | refine below_set ?_ GE109.out | refine below_set ?_ GE110.out) | exact HB.out)))
                      (case aF => exact (fun _ _ => trivial))
                      (case aO => exact (by (with_reducible repeat (first | apply Kd.R_alloc | apply Kd.R_drewN | apply Kd.R_drew)); exact HO_111004.out))
                      (case aS => exact (below_size (by repeat (first | (with_reducible first | exact HB.out | apply below_alloc | apply pw_below_drewN | apply below_drew1 | refine below_set ?_ GE109.out | refine below_set ?_ GE110.out) | exact HB.out))))
                      (case aL => have := LMc14.out; omega)
                      intro v115 w16 ho hb hg hat
                      rw [← Ny114.out] at ho
                      have n0_ := Aside0.mk (blk_grown (g := gb109) (o := .cells #[.int .i64 0, .int .i64 0, .int .u64 0, .slice none 0 0, .slice none 0 0] 31 (0, 0)) (by (with_reducible repeat (first | refine blk_drewN ?_ _ | refine blk_drew ?_ | refine blk_alloc ?_ _)); exact BK109.out) hg (Kd.R_ne HO_111004.out BK109.out (by decide)))
                      have n1_ := Aside0.mk (blk_grown (g := gb110) (o := .cells #[.int .i64 a1, .int .i64 a2, .int .u64 a3, .slice none 0 0, u111004] 31 (0, 0)) (by (with_reducible repeat (first | refine blk_drewN ?_ _ | refine blk_drew ?_ | refine blk_alloc ?_ _)); exact BK110.out) hg (Kd.R_ne HO_111004.out BK110.out (by decide)))
                      have n2_ := Aside0.mk (hb)
                      have n3_ := Aside0.mk (ho)
                      clear BK109
                      clear BK110
                      clear HB
                      clear HO_111004
                      have BK109 := n0_
                      have BK110 := n1_
                      have HB := n2_
                      have HO116 := n3_
                      clear n0_ n1_ n2_ n3_
                      clear ho hb hg hat
                      obtain ⟨Ao17, co17, eo17⟩ := Kd.R_slice HO116.out
                      (first | subst eo17 | (injection eo17 with f1_ f2_ f3_; have f4_ := f1_.symm; have f5_ := f3_.symm; clear f1_ f2_ f3_; subst f4_; subst f5_))
                      refine hK.out _ _ ⟨(blk_cell BK110.out 0).trans rfl, (blk_cell BK110.out 1).trans rfl, (blk_cell BK110.out 2).trans rfl, (blk_cell BK110.out 3).trans rfl, (blk_cell BK110.out 4).trans rfl, ((HB.out.cell (World.block_lt_of_cell? w _ hw112_0)).trans hw112_0), ((HB.out.cell (World.block_lt_of_cell? w _ hw113_0)).trans hw113_0), ((HB.out.cell (World.block_lt_of_cell? w _ hw113_1)).trans hw113_1), ((HB.out.cell (World.block_lt_of_cell? w _ hw113_2)).trans hw113_2), ((HB.out.cell (World.block_lt_of_cell? w _ hw113_3)).trans hw113_3), ((HB.out.cell (World.block_lt_of_cell? w _ hw113_4)).trans hw113_4), ((HB.out.cell (World.block_lt_of_cell? w _ hw113_5)).trans hw113_5)⟩ (fun hHeld => ?_)
                      clear hK K
                      refine norm_ (a' := ?_) ?_ ?_
                      rotate_left
                      · show Act.put _ (some 43) _ = _
                        simp only [Act.put, List.setIfInBounds_toArray, List.set_cons_zero, List.set_cons_succ, i64_w, i32_w]
                        rfl
                      refine pure_ (i := 13) (N := some 44) (v := ?_) (a' := ?_) #[true, true, true, true, true, true, true, true, true, true, true, true, true, true, false] rfl rfl (any_of HT_.out (by kernel_rfl)) (fun _ _ _ h => h) (Or.inl ⟨by rfl, ?_⟩) ?_ ?_
                      rotate_left
                      · intro w'
                        go_simp
                        with_reducible rfl
                      rotate_left
                      · simp only [Act.put, List.setIfInBounds_toArray, List.set_cons_zero, List.set_cons_succ, i64_w, i32_w]
                        rfl
                      refine last_ (i := 14) (N := none) #[true, true, true, true, true, true, true, true, true, true, true, true, true, true, true] rfl rfl (one_of HT_.out (by kernel_rfl)) (by decide) (fun K hK => ?_)
                      have hs18 : w16.cell? ⟨gb110, 4, none⟩ = some (u111004) := (blk_cell BK110.out 4).trans rfl
                      have hfs18 := blk_frozen BK110.out 4
                      have hns18_0 := NB109_110.out
                      have hms18_0 := NB110_109.out
                      refine skip_ (w1 := ?_) (by rfl) rfl ?_ ?_
                      rotate_left
                      · go_simp
                        rfl
                      refine hK.out _ _ ?_
                      clear hK K
                      refine done_ (done_of HT_.out (by kernel_rfl)) ?_
                      try go_wp2
                      go_roundg k2
                      case measure => have := HK1.out; have := HK2.out; omega
                      case rel => exact ⟨(wrap64 (x11_2 + 1)), (y114), (.slice Ao17 y114.length co17), (by first | rfl | (simp; done) | (simp [*]; done)), H', ⟨by have := HK1.out; have := HK2.out; omega⟩, ⟨by (with_reducible repeat (first | apply Kd.R_alloc | apply Kd.R_drewN | apply Kd.R_drew)); exact Kd.R_mono (Kd.R_far (p := ⟨gb110, 4, none⟩) (Kd.R_types HO116.out BK110.out (by decide)) (fun _ hk => hk.2) (.slice Ao17 y114.length co17)) (fun _ hk => trivial)⟩, ⟨by (with_reducible repeat (first | refine blk_drewN ?_ _ | refine blk_drew ?_ | refine blk_alloc ?_ _)); refine blk_far ?_ NB109_110.out _; (with_reducible repeat (first | refine blk_drewN ?_ _ | refine blk_drew ?_ | refine blk_alloc ?_ _)); exact BK109.out⟩, ⟨by (with_reducible repeat (first | refine blk_drewN ?_ _ | refine blk_drew ?_ | refine blk_alloc ?_ _)); refine blk_put (cs := #[.int .i64 a1, .int .i64 a2, .int .u64 a3, .slice none 0 0, u111004]) ?_ 4 _ rfl; (with_reducible repeat (first | refine blk_drewN ?_ _ | refine blk_drew ?_ | refine blk_alloc ?_ _)); exact BK110.out⟩, ⟨by repeat (first | (with_reducible first | exact HB.out | apply below_alloc | apply pw_below_drewN | apply below_drew1 | refine below_set ?_ GE109.out | refine below_set ?_ GE110.out) | exact HB.out)⟩⟩
                    · rw [if_neg c14] at H
                      exact absurd H (by simp)
                  · rw [if_neg c13] at H
                    exact absurd H (by simp)
                · rw [if_neg c12] at H
                  have c12b0 : decide (x11_2 < ((rd_L4 l0 x10_1).length : Int)) = false := decide_eq_false c12
                  clear c12
                  have H' := Aside0.mk H
                  clear H
                  have p111 : 0 ≤ (x10_1 : Int) := of_decide_eq_true (by first | (with_reducible assumption) | assumption)
                  have q111 : x10_1 < (l0.length : Int) := of_decide_eq_true (by first | (with_reducible assumption) | assumption)
                  obtain ⟨ad111, A111_0, c111_0, e111, hx111_0, hl111_0, hi111_0⟩ := at_L4 HR0.out x10_1 p111 q111
                  cases e111
                  replace hx111_0 := (HB.out.cell (World.block_lt_of_cell? w _ hx111_0)).trans hx111_0
                  have HR111_0 := Aside0.mk hi111_0
                  have HC111_0 := Aside0.mk hl111_0
                  clear hi111_0 hl111_0
                  replace p111 := eq_true p111
                  replace q111 := eq_true q111
                  go_wp2
                  go_roundg k2
                  case measure => have := HK1.out; have := HK2.out; omega
                  case rel => exact ⟨(wrap64 (x10_1 + 1)), (x111004_2), (u111004), (by first | rfl | (simp; done) | (simp [*]; done)), H', ⟨by have := HK1.out; have := HK2.out; omega⟩, ⟨by (with_reducible repeat (first | apply Kd.R_alloc | apply Kd.R_drewN | apply Kd.R_drew)); exact HO_111004.out⟩, ⟨by (with_reducible repeat (first | refine blk_drewN ?_ _ | refine blk_drew ?_ | refine blk_alloc ?_ _)); exact BK109.out⟩, ⟨by (with_reducible repeat (first | refine blk_drewN ?_ _ | refine blk_drew ?_ | refine blk_alloc ?_ _)); exact BK110.out⟩, ⟨by repeat (first | (with_reducible first | exact HB.out | apply below_alloc | apply pw_below_drewN | apply below_drew1 | refine below_set ?_ GE109.out | refine below_set ?_ GE110.out) | exact HB.out)⟩⟩
              · rw [if_neg c11] at H
                exact absurd H (by simp)
            · rw [if_neg c10] at H
              exact absurd H (by simp)
      · rw [if_neg c9] at H
        have c9b0 : decide (x10_1 < (l0.length : Int)) = false := decide_eq_false c9
        clear c9
        simp only [Option.some.injEq, Prod.mk.injEq] at H
        obtain ⟨rfl, rfl, rfl, rfl, rfl⟩ := H
        have hnb19 := NB110_109.out
        have hnc19 := NB109_110.out
        have hcz20_0 : wr.cell? ⟨gb110, 0, none⟩ = some (.int .i64 a1) := (blk_cell BK110.out 0).trans rfl
        have hcz20_1 : wr.cell? ⟨gb110, 1, none⟩ = some (.int .i64 a2) := (blk_cell BK110.out 1).trans rfl
        have hcz20_2 : wr.cell? ⟨gb110, 2, none⟩ = some (.int .u64 a3) := (blk_cell BK110.out 2).trans rfl
        have hcz20_3 : wr.cell? ⟨gb110, 3, none⟩ = some (.slice none 0 0) := (blk_cell BK110.out 3).trans rfl
        have hcz20_4 : wr.cell? ⟨gb110, 4, none⟩ = some (u111004) := (blk_cell BK110.out 4).trans rfl
        have hfz20_0 := blk_frozen BK110.out 0
        have hfz20_1 := blk_frozen BK110.out 1
        have hfz20_2 := blk_frozen BK110.out 2
        have hfz20_3 := blk_frozen BK110.out 3
        have hfz20_4 := blk_frozen BK110.out 4
        have hcz21_0 : wr.cell? ⟨gb109, 0, none⟩ = some (.int .i64 0) := (blk_cell BK109.out 0).trans rfl
        have hcz21_1 : wr.cell? ⟨gb109, 1, none⟩ = some (.int .i64 0) := (blk_cell BK109.out 1).trans rfl
        have hcz21_2 : wr.cell? ⟨gb109, 2, none⟩ = some (.int .u64 0) := (blk_cell BK109.out 2).trans rfl
        have hcz21_3 : wr.cell? ⟨gb109, 3, none⟩ = some (.slice none 0 0) := (blk_cell BK109.out 3).trans rfl
        have hcz21_4 : wr.cell? ⟨gb109, 4, none⟩ = some (.slice none 0 0) := (blk_cell BK109.out 4).trans rfl
        have hfz21_0 := blk_frozen BK109.out 0
        have hfz21_1 := blk_frozen BK109.out 1
        have hfz21_2 := blk_frozen BK109.out 2
        have hfz21_3 := blk_frozen BK109.out 3
        have hfz21_4 := blk_frozen BK109.out 4
        obtain ⟨Ao22, co22, eo22⟩ := Kd.R_slice HO_111004.out
        subst eo22
        go_wp2
        refine bodyPost_ret (results_cell_row rfl _ _ gb109 31 #[.int .i64 a1, .int .i64 a2, .int .u64 a3, .slice none 0 0, .slice Ao22 x111004_1.length co22] (0, 0) _ rfl (by (with_reducible repeat (first | refine blk_drewN ?_ _ | refine blk_drew ?_ | refine blk_alloc ?_ _)); refine blk_put (cs := #[.int .i64 a1, .int .i64 a2, .int .u64 a3, .slice none 0 0, .slice none 0 0]) ?_ 4 _ rfl; (with_reducible repeat (first | refine blk_drewN ?_ _ | refine blk_drew ?_ | refine blk_alloc ?_ _)); refine blk_put (cs := #[.int .i64 a1, .int .i64 a2, .int .u64 a3, .slice none 0 0, .slice none 0 0]) ?_ 3 _ rfl; (with_reducible repeat (first | refine blk_drewN ?_ _ | refine blk_drew ?_ | refine blk_alloc ?_ _)); refine blk_put (cs := #[.int .i64 a1, .int .i64 a2, .int .u64 0, .slice none 0 0, .slice none 0 0]) ?_ 2 _ rfl; (with_reducible repeat (first | refine blk_drewN ?_ _ | refine blk_drew ?_ | refine blk_alloc ?_ _)); refine blk_put (cs := #[.int .i64 a1, .int .i64 0, .int .u64 0, .slice none 0 0, .slice none 0 0]) ?_ 1 _ rfl; (with_reducible repeat (first | refine blk_drewN ?_ _ | refine blk_drew ?_ | refine blk_alloc ?_ _)); refine blk_put (cs := #[.int .i64 0, .int .i64 0, .int .u64 0, .slice none 0 0, .slice none 0 0]) ?_ 0 _ rfl; (with_reducible repeat (first | refine blk_drewN ?_ _ | refine blk_drew ?_ | refine blk_alloc ?_ _)); exact BK109.out) Try.underlying31 rfl (by kernel_rfl)) rfl ?_
        exact ⟨_, _, by first | rfl | (simp [errW_none, errW_some] <;> rfl) | (simp [*, errW_none, errW_some] <;> rfl), by first | exact Kd.R_nil _ _ _ _ _ | exact Kd.N_nil _ _ _ _ _ | exact Kd.V_nil _ _ _ _ _ | exact Kd.Q_nil _ _ _ _ _ | exact Kd.S_nil _ _ _ _ _, by (with_reducible repeat (first | apply Kd.R_alloc | apply Kd.R_drewN | apply Kd.R_drew)); exact Kd.R_mono (Kd.R_far (p := ⟨gb109, 4, none⟩) (Kd.R_far (p := ⟨gb109, 3, none⟩) (Kd.R_far (p := ⟨gb109, 2, none⟩) (Kd.R_far (p := ⟨gb109, 1, none⟩) (Kd.R_far (p := ⟨gb109, 0, none⟩) (Kd.R_types HO_111004.out BK109.out (by decide)) (fun _ hk => hk.2) (.int .i64 a1)) (fun _ hk => hk.2) (.int .i64 a2)) (fun _ hk => hk.2) (.int .u64 a3)) (fun _ hk => hk.2) (.slice none 0 0)) (fun _ hk => hk.2) (.slice Ao22 x111004_1.length co22)) (fun _ hk => trivial), by repeat (first | (with_reducible first | exact HB.out | apply below_alloc | apply pw_below_drewN | apply below_drew1 | refine below_set ?_ GE109.out | refine below_set ?_ GE110.out) | exact HB.out)⟩

end Go.Proofs.Ytppldgbgdgeegaa.G

/- Contracts typed by hand: plain: Whole is ref.Whole -/
namespace Go.Proofs.Ytppldgbgdgeegaa.G
open Go.RowKit Go.Proofs.YtppldgbgdgeegaaW.PrintWords Go.Proofs.YtppldgbgdgeegaaW.PrintLast Go.Proofs.YtppldgbgdgeegaaW.PrintMore
attribute [local go_sem] max2_int min2_int max_two min_two max_three min_three max_four min_four
set_option linter.unusedVariables false
set_option linter.unusedSimpArgs false

/-! plain: Whole is ref.Whole -/
def lev (j : Int) (fs : List S36) : List S43 := fs.map fun f => ⟨j, f⟩
def whL : Nat → List (List S36) → List S43
  | _, [] => []
  | j, fs :: r => lev (j : Int) fs ++ whL (j + 1) r
def costW : List (List S36) → Nat
  | [] => 1
  | fs :: r => costW r + fs.length + 2
theorem rd36_at {l : List S36} {i : Nat} (h : i < l.length) : rd_T36 l (i : Int) = l[i] := by unfold rd_T36; simp [h]
theorem rdL4_at {l : List (List S36)} {i : Nat} (h : i < l.length) : rd_L4 l (i : Int) = l[i] := by unfold rd_L4; simp [h]
theorem ed_l1 (L : List (List S36)) (fs : List S36) (i n a1 a2 a3 : Int) (hf : fs.length ≤ 4000000) : ∀ (d t k : Nat) (o : List S43), t + d = fs.length → o.length + d ≤ 4000000 →
    edit_Whole.l1 (k + d + 1) i L n i fs (fs.length : Int) (t : Int) a1 a2 a3 o = edit_Whole.l0 k L n (wrap64 (i + 1)) a1 a2 a3 (o ++ lev i (fs.drop t)) := by
  intro d
  induction d with
  | zero =>
    intro t k o ht ho
    unfold edit_Whole.l1
    rw [if_neg (by omega), List.drop_of_length_le (by omega)]
    unfold lev
    rw [List.map_nil, List.append_nil]
  | succ d ih =>
    intro t k o ht ho
    have h : t < fs.length := by omega
    have e := ih (t + 1) k (o ++ [⟨i, fs[t]⟩]) (by omega) (by rw [List.length_append]; simp only [List.length_cons, List.length_nil]; omega)
    rw [show k + (d + 1) + 1 = (k + d + 1) + 1 from rfl]
    unfold edit_Whole.l1
    rw [if_pos (by omega), if_pos (by omega), if_pos (by omega), if_pos (by omega), rd36_at h, wrap_up t (by omega)]
    refine e.trans ?_
    rw [List.drop_eq_getElem_cons h]
    unfold lev
    rw [List.map_cons, List.append_assoc]
    rfl
theorem ed_l0 (L : List (List S36)) (a1 a2 a3 : Int) (hL : L.length ≤ 4000000) : ∀ (R : List (List S36)) (i k : Nat) (o : List S43), L.drop i = R → i + R.length = L.length → o.length + (R.map List.length).sum ≤ 4000000 →
    edit_Whole.l0 (k + costW R) L (L.length : Int) (i : Int) a1 a2 a3 o = some (a1, a2, a3, [], o ++ whL i R) := by
  intro R
  induction R with
  | nil =>
    intro i k o hd hi ho
    rw [costW]
    unfold edit_Whole.l0
    rw [if_neg (by simp only [List.length_nil] at hi; omega)]
    rw [whL, List.append_nil]
  | cons fs r ih =>
    intro i k o hd hi ho
    rw [List.length_cons] at hi
    rw [List.map_cons, List.sum_cons] at ho
    have h : i < L.length := by omega
    have e0 := hd
    rw [List.drop_eq_getElem_cons h] at e0
    obtain ⟨e1, e2⟩ := List.cons.inj e0
    have f := ih (i + 1) k (o ++ lev (i : Int) fs) e2 (by omega) (by unfold lev; rw [List.length_append, List.length_map]; omega)
    have g := ed_l1 L fs (i : Int) (L.length : Int) a1 a2 a3 (by omega) fs.length 0 (k + costW r) o (by omega) (by omega)
    rw [List.drop_zero, wrap_up i (by omega), f] at g
    have hk : k + costW (fs :: r) = (k + costW r + fs.length + 1) + 1 := by rw [costW]; omega
    rw [hk]
    unfold edit_Whole.l0
    rw [if_pos (by omega), if_pos (by omega), if_pos (by omega), rdL4_at h, e1]
    refine g.trans ?_
    rw [whL, List.append_assoc]
theorem ed_eq (L : List (List S36)) (a1 a2 a3 : Int) (hL : L.length ≤ 4000000) (hs : (L.map List.length).sum ≤ 4000000) : edit_Whole.f (costW L) L a1 a2 a3 = some (a1, a2, a3, [], whL 0 L) := by
  have h := ed_l0 L a1 a2 a3 hL L 0 0 [] rfl (by omega) (by simp only [List.length_nil]; omega)
  rw [Nat.zero_add, List.nil_append] at h
  exact h
theorem rf_l1 (L : List (List S36)) (i : Nat) (hi : i < L.length) (fs : List S36) (hfs : L[i] = fs) (a1 a2 a3 : Int) (hf : fs.length ≤ 4000000) : ∀ (d t k : Nat) (o : List S43), t + d = fs.length → o.length + d ≤ 4000000 →
    moraineref15_Whole.l1 (k + d + 1) L (i : Int) (t : Int) a1 a2 a3 o = moraineref15_Whole.l0 k L (wrap64 ((i : Int) + 1)) a1 a2 a3 (o ++ lev (i : Int) (fs.drop t)) := by
  intro d
  induction d with
  | zero =>
    intro t k o ht ho
    unfold moraineref15_Whole.l1
    rw [if_pos (by omega), if_pos (by omega), rdL4_at hi, hfs, if_neg (by omega), List.drop_of_length_le (by omega)]
    unfold lev
    rw [List.map_nil, List.append_nil]
  | succ d ih =>
    intro t k o ht ho
    have h : t < fs.length := by omega
    have e := ih (t + 1) k (o ++ [⟨(i : Int), fs[t]⟩]) (by omega) (by rw [List.length_append]; simp only [List.length_cons, List.length_nil]; omega)
    rw [show k + (d + 1) + 1 = (k + d + 1) + 1 from rfl]
    unfold moraineref15_Whole.l1
    rw [if_pos (by omega), if_pos (by omega), rdL4_at hi, hfs, if_pos (by omega), if_pos (by omega), if_pos (by omega), rd36_at h, wrap_up t (by omega)]
    refine e.trans ?_
    rw [List.drop_eq_getElem_cons h]
    unfold lev
    rw [List.map_cons, List.append_assoc]
    rfl
theorem rf_l0 (L : List (List S36)) (a1 a2 a3 : Int) (hL : L.length ≤ 4000000) : ∀ (R : List (List S36)) (i k : Nat) (o : List S43), L.drop i = R → i + R.length = L.length → o.length + (R.map List.length).sum ≤ 4000000 →
    moraineref15_Whole.l0 (k + costW R) L (i : Int) a1 a2 a3 o = some (a1, a2, a3, [], o ++ whL i R) := by
  intro R
  induction R with
  | nil =>
    intro i k o hd hi ho
    rw [costW]
    unfold moraineref15_Whole.l0
    rw [if_neg (by simp only [List.length_nil] at hi; omega)]
    rw [whL, List.append_nil]
  | cons fs r ih =>
    intro i k o hd hi ho
    rw [List.length_cons] at hi
    rw [List.map_cons, List.sum_cons] at ho
    have h : i < L.length := by omega
    have e0 := hd
    rw [List.drop_eq_getElem_cons h] at e0
    obtain ⟨e1, e2⟩ := List.cons.inj e0
    have f := ih (i + 1) k (o ++ lev (i : Int) fs) e2 (by omega) (by unfold lev; rw [List.length_append, List.length_map]; omega)
    have g := rf_l1 L i h fs e1 a1 a2 a3 (by omega) fs.length 0 (k + costW r) o (by omega) (by omega)
    rw [List.drop_zero, wrap_up i (by omega), f] at g
    have hk : k + costW (fs :: r) = (k + costW r + fs.length + 1) + 1 := by rw [costW]; omega
    rw [hk]
    unfold moraineref15_Whole.l0
    rw [if_pos (by omega)]
    refine g.trans ?_
    rw [whL, List.append_assoc]
theorem rf_eq (L : List (List S36)) (a1 a2 a3 : Int) (hL : L.length ≤ 4000000) (hs : (L.map List.length).sum ≤ 4000000) : moraineref15_Whole.f (costW L) L a1 a2 a3 = some (a1, a2, a3, [], whL 0 L) := by
  have h := rf_l0 L a1 a2 a3 hL L 0 0 [] rfl (by omega) (by simp only [List.length_nil]; omega)
  rw [Nat.zero_add, List.nil_append] at h
  exact h
theorem whL_len : ∀ (L : List (List S36)) (j : Nat), (whL j L).length = (L.map List.length).sum
  | [], _ => rfl
  | fs :: r, j => by
    rw [whL, List.length_append, whL_len r (j + 1), List.map_cons, List.sum_cons]
    unfold lev
    rw [List.length_map]

end Go.Proofs.Ytppldgbgdgeegaa.G

/- Contracts typed by hand: the law EditWhole -/
namespace Go.Proofs.Ytppldgbgdgeegaa.G
open Go.RowKit Go.Proofs.YtppldgbgdgeegaaW.PrintWords Go.Proofs.YtppldgbgdgeegaaW.PrintLast Go.Proofs.YtppldgbgdgeegaaW.PrintMore
attribute [local go_sem] max2_int min2_int max_two min_two max_three min_three max_four min_four
set_option linter.unusedVariables false
set_option linter.unusedSimpArgs false

/-! the law EditWhole -/
open Go.WideMaps Go.WideElems
attribute [local go_sem high] eqA36
abbrev zEw : Array Value := cE 0 0 0 (.slice none 0 0) (.slice none 0 0)
theorem whole15 (L : List (List S36)) (b0 b1 b2 : Int) (n rm : Nat) (hn : L.length = n) (hrm : (whL 0 L).length = rm) (hL : n ≤ 1048576) (hs : (L.map List.length).sum ≤ 1048576) (A : Option Addr) (c : Nat) (w : World) (hr : Kd.C (Kd.slice 36 k36) w A n L) (hc : n ≤ c) :
    Calls Try.prog 6 #[.slice A n c, .int .i64 b0, .int .i64 b1, .int .u64 b2] w fun e w' => ∃ X3 x3 X4 x4, e = .returned (.agg (cE b0 b1 b2 (.slice X3 0 x3) (.slice X4 rm x4))) ∧ EdR w' w.heap.size (.slice X3 0 x3) (.slice X4 rm x4) [] (whL 0 L) ∧ Below w.heap.size w w' := by
  subst hn hrm
  refine (edit_Whole.calls (costW L) A c L b0 b1 b2 _ _ _ _ _ w hr hc (ed_eq L b0 b1 b2 (by omega) (by omega))).mono ?_
  rintro e w' ⟨v3, v4, rfl, r3, r4, hb⟩
  obtain ⟨X3, x3, rfl, _, _⟩ := Kd.R_reads r3
  obtain ⟨X4, x4, rfl, _, _⟩ := Kd.R_reads r4
  exact ⟨X3, x3, X4, x4, rfl, ⟨r3, r4⟩, hb⟩
theorem rwhole15 (L : List (List S36)) (b0 b1 b2 : Int) (n rm : Nat) (hn : L.length = n) (hrm : (whL 0 L).length = rm) (hL : n ≤ 1048576) (hs : (L.map List.length).sum ≤ 1048576) (A : Option Addr) (c : Nat) (w : World) (hr : Kd.C (Kd.slice 36 k36) w A n L) (hc : n ≤ c) :
    Calls Try.prog 7 #[.slice A n c, .int .i64 b0, .int .i64 b1, .int .u64 b2] w fun e w' => ∃ X3 x3 X4 x4, e = .returned (.agg (cE b0 b1 b2 (.slice X3 0 x3) (.slice X4 rm x4))) ∧ EdR w' w.heap.size (.slice X3 0 x3) (.slice X4 rm x4) [] (whL 0 L) ∧ Below w.heap.size w w' := by
  subst hn hrm
  refine (moraineref15_Whole.calls (costW L) A c L b0 b1 b2 _ _ _ _ _ w hr hc (rf_eq L b0 b1 b2 (by omega) (by omega))).mono ?_
  rintro e w' ⟨v3, v4, rfl, r3, r4, hb⟩
  obtain ⟨X3, x3, rfl, _, _⟩ := Kd.R_reads r3
  obtain ⟨X4, x4, rfl, _, _⟩ := Kd.R_reads r4
  exact ⟨X3, x3, X4, x4, rfl, ⟨r3, r4⟩, hb⟩
theorem at_Lv {w : World} {A : Option Addr} {L : List (List S36)} {n : Nat} (h : Kd.C (Kd.slice 36 k36) w A n L) (i : Nat) (hi : i < L.length) : ∃ ad B c, A = some ad ∧ w.cell? (ad.add i) = some (.slice B L[i].length c) ∧ L[i].length ≤ c ∧ Kd.C k36 w B L[i].length L[i] := by
  obtain ⟨ad, c, e, _, hK, hc0⟩ := Kd.C_get h [] (i : Int) (by omega) (by have := h.1; omega)
  have hg : L.getD ((i : Int)).toNat [] = L[i] := by simp [hi]
  rw [hg] at hK
  obtain ⟨B, c', rfl, hl, hr⟩ := hK
  have hc := hc0 0 _ rfl
  rw [Int.toNat_natCast] at hc
  refine ⟨ad, B, c', e, ?_, hl, hr⟩
  have e2 : i * (Kd.slice 36 k36).sz + 0 = i := by show i * 1 + 0 = i; omega
  rw [e2] at hc
  exact hc
theorem sum_le {L : List (List S36)} {i : Nat} (h : i < L.length) : L[i].length ≤ (L.map List.length).sum := by
  induction L generalizing i with
  | nil => simp at h
  | cons a r ih =>
    rw [List.map_cons, List.sum_cons]
    cases i with
    | zero => simp
    | succ i =>
      have := ih (i := i) (by simpa using h)
      rw [List.getElem_cons_succ]
      omega
theorem take_snoc' {α : Type} {l : List α} {k : Nat} (h : k < l.length) : l.take (k + 1) = l.take k ++ [l[k]] := by
  rw [List.take_add_one, List.getElem?_eq_getElem h]
  rfl
set_option maxHeartbeats 64000000 in
set_option maxRecDepth 100000 in
theorem whole_calls (A : Option Addr) (c : Nat) (L : List (List S36)) (b0 b1 b2 : Int) (w : World) (n : Nat) (hn : L.length = n) (hl : n ≤ 1048576) (hs : (L.map List.length).sum ≤ 1048576) (hr : Kd.C (Kd.slice 36 k36) w A n L) (hc : n ≤ c) :
    Calls Try.prog 3 #[.slice A n c, .agg #[.int .i64 b0, .int .i64 b1, .int .u64 b2]] w fun e w' => e = .returned (.bool true) ∧ Below w.heap.size w w' := by
  have HR := Aside0.mk (And.intro hr hc)
  have HN := Aside0.mk hn
  have HS := Aside0.mk hs
  have HLL := Aside0.mk hl
  obtain ⟨rm, hrm⟩ : ∃ r, (whL 0 L).length = r := ⟨_, rfl⟩
  have HRM := Aside0.mk hrm
  have HRL := Aside0.mk (show rm ≤ 1048576 by rw [← hrm, whL_len]; exact hs)
  have HWH := Aside0.mk (fun (Ai : Option Addr) (ci : Nat) (W : World) (h : Kd.C (Kd.slice 36 k36) W Ai n L) (h2 : n ≤ ci) => whole15 L b0 b1 b2 n rm hn hrm hl hs Ai ci W h h2)
  have HRF := Aside0.mk (fun (W : World) (hb : Below w.heap.size w W) => rwhole15 L b0 b1 b2 n rm hn hrm hl hs A c W (Kd.C_below hr hb) hc)
  have K3 := Aside0.mk (blk_new w (.cells #[.int .i64 b0, .int .i64 b1, .int .u64 b2] 26))
  have HB := Aside0.mk (below_alloc (Below.refl w.heap.size w) (.cells #[.int .i64 b0, .int .i64 b1, .int .u64 b2] 26))
  clear hr hc hn hs hrm
  go_enter Try.func3, Try.ntmps3
  go_wp2_with fail
  generalize w.alloc (.cells #[.int .i64 b0, .int .i64 b1, .int .u64 b2] 26) = W0 at K3 HB ⊢
  go_loopg [5, 6] (1 + n) (fun kq v5 v6 wr => ∃ (i : Nat) (Ai : Option Addr) (ni ci : Nat), v5 = .slice Ai ni ci ∧ v6 = .int .i64 (i : Int) ∧ i ≤ n ∧ n - i < kq ∧ Aside0 (Kd.R (Kd.slice 36 k36) 27 wr w.heap.size (fun _ => True) (.slice Ai ni ci) (L.take i)) ∧ Aside0 (wr.heap[w.heap.size]? = some (.cells #[.int .i64 b0, .int .i64 b1, .int .u64 b2] 26 (0, 0))) ∧ Aside0 (Below w.heap.size w wr))
  case atStart => exact ⟨0, none, 0, 0, rfl, rfl, Nat.zero_le _, by omega, ⟨Kd.R_nil _ _ _ _ _⟩, K3, HB⟩
  case round =>
    clear K3 HB
    obtain ⟨i, Ai, ni, ci, rfl, rfl, hin, hkq, HI, K3, HB⟩ := hrel
    cases gk with
    | zero => omega
    | succ gk1 =>
    by_cases hi : i < n
    · have b1' : decide ((i : Int) < (n : Int)) = true := decide_eq_true (by omega)
      have b1n : decide (i < n) = true := decide_eq_true hi
      have hio : i < L.length := by rw [HN.out]; exact hi
      obtain ⟨ad, B, cB, hA, f0, hlB, rB⟩ := at_Lv HR.out.1 i hio
      subst hA
      have hfb : L[i].length ≤ 1048576 := Nat.le_trans (sum_le hio) HS.out
      have htk := take_snoc' hio
      obtain ⟨fs, hfs⟩ : ∃ fs, L[i] = fs := ⟨_, rfl⟩
      rw [hfs] at f0 hlB rB hfb htk
      obtain ⟨m, hm⟩ : ∃ m, fs.length = m := ⟨_, rfl⟩
      rw [hm] at f0 hlB rB hfb
      have HM := Aside0.mk hm
      have HTK := Aside0.mk htk
      have RB := Aside0.mk (Kd.C_below rB HB.out)
      have HBR := Aside0.mk (below_size HB.out)
      have g0 := (HB.out.cell (World.block_lt_of_cell? w _ f0)).trans f0
      clear hio hfs htk hm f0 rB
      go_wp2_with (first | ((with_reducible refine gate_dst (N := 19) rfl ?_); refine Kd.R_lit k36 wr.heap.size 36 ?hg (N := 19) ?hd (xs := ([] : List (S36))) (inner := []) (ok := fun _ => True) (okp := fun _ => True) ?hr ?hp (fun _ hk => hk) trivial (Below.refl _ _) (Nat.le_refl _) (by simp) ?_; (case hd => rfl); (case hg => rfl); (case hr => first | (go_simp; done) | (go_simp; rfl)); (case hp => exact (Reps.none _ _)); intro v1 w1 ho hb hg_ hnew_; have HO1 := Aside0.mk ho; have HB1 := Aside0.mk hb; have h0 := (hb.cell (World.block_lt_of_cell? wr _ g0)).trans g0; clear ho hb hg_ hnew_) | ((with_reducible refine gate_builtin (b := .append) (xs := #[.tmp 19, .tmp 23]) rfl ?_); at_builtin; refine Kd.R_append_rows k36 (w0 := wr) wr.heap.size rfl (.tmp 19) (.tmp 23) 27 36 (.agg #[(.int .i64 0), (.int .i64 0), (.string ⟨#[]⟩), (.string ⟨#[]⟩), (.int .u64 0), (.int .u64 0)]) 64 rfl Try.underlying27 info36 rfl (by decide) (by omega) v1 [] fs _ _ _ (fun _ => True) (fun _ => False) rfl rfl ?aO ?aR (fun _ _ h => h) (fun _ h => h.elim) ?aF ?aB ?aS ?aL ?_; (case aR => exact Kd.C_below RB.out HB1.out); (case aB => exact HB1.out); (case aF => exact (fun _ _ => trivial)); (case aO => exact HO1.out); (case aS => exact (below_size HB1.out)); (case aL => simp only [List.length_nil]; omega); intro v2 w2 ho hb hg hat; rw [List.nil_append] at ho; obtain ⟨A2, c2, rfl, _, _⟩ := Kd.R_reads ho; rw [HM.out] at ho ⊢; have HO2 := Aside0.mk ho; have HB2 := Aside0.mk hb; clear ho hb hg hat) | ((with_reducible refine gate_builtin (b := .append) (xs := #[.tmp 18, .tmp 25]) rfl ?_); at_builtin; refine Kd.R_append (Kd.slice 36 k36) (w0 := w) w.heap.size rfl (.tmp 18) (.tmp 25) 23 27 (.slice none 0 0) 24 rfl Try.underlying23 info27 rfl (by decide) (by omega) (.slice Ai ni ci) (L.take i) fs [.slice A2 m c2] (fun _ => True) (fun k => wr.heap.size ≤ k) rfl (by first | (go_simp; done) | (go_simp; rfl)) ?aP ?aK ?aF ?aO ?aB ?aS ?aL ?_; (case aP => exact ⟨_, rfl, Kd.R_lower (Kd.R_mono (Kd.R_bound HO2.out) (fun k hk => hk.2.1)) HBR.out⟩); (case aK => exact (fun k hk => ⟨trivial, fun e => absurd (Kd.R_lt HI.out k e.symm) (by omega)⟩)); (case aB => exact (below_step HB.out HB2.out)); (case aF => exact (fun _ _ => trivial)); (case aO => exact (Kd.R_below HI.out HB2.out)); (case aS => exact (below_size (below_step HB.out HB2.out))); (case aL => rw [List.length_take]; have := HLL.out; omega); intro v9 w9 ho hb hg hat; obtain ⟨A9, c9, rfl, _, _⟩ := Kd.R_reads ho; obtain ⟨n9, hn9⟩ : ∃ n, (L.take i ++ [fs]).length = n := ⟨_, rfl⟩; rw [hn9] at ho ⊢; have HI9 := Aside0.mk ho; have HB9 := Aside0.mk hb; have K9 := Aside0.mk ((hg.block _ (blk_lt (blk_below K3.out HB2.out)) (Kd.R_ne (Kd.R_below HI.out HB2.out) (blk_below K3.out HB2.out) (by decide))).trans (blk_below K3.out HB2.out)); clear ho hb hg hat hn9))
      go_roundg gk1
      case measure => omega
      case rel => exact ⟨i + 1, A9, n9, c9, rfl, by go_num, by omega, by omega, ⟨by rw [HTK.out]; exact HI9.out⟩, K9, HB9⟩
    · obtain rfl : n = i := by omega
      have b1' : decide ((n : Int) < (n : Int)) = false := decide_eq_false (by omega)
      have b1n : decide (n < n) = false := decide_eq_false (by omega)
      have HI := Aside0.mk (show Kd.R (Kd.slice 36 k36) 27 wr w.heap.size (fun _ => True) (.slice Ai ni ci) L by have h := HI.out; rwa [List.take_of_length_le (by have := HN.out; omega)] at h)
      obtain rfl : n = ni := by have h := (Kd.R_reads' HI.out).1; have h2 := HN.out; omega
      have u0 := blk_cell K3.out 0
      have u1 := blk_cell K3.out 1
      have u2 := blk_cell K3.out 2
      have HCI := Aside0.mk (fun (W : World) (hb : Below wr.heap.size wr W) => HWH.out Ai ci W (by have h := (Kd.R_reads' (Kd.R_below HI.out hb)).2.2; rw [HN.out] at h; exact h) (Kd.R_reads' HI.out).2.1)
      clear hkq HWH
      go_wp2_with fail
      refine start_ (n := 20) (S := fun w' => w'.cell? ⟨w.heap.size, 0, none⟩ = some (.int .i64 b0) ∧ w'.cell? ⟨w.heap.size, 1, none⟩ = some (.int .i64 b1) ∧ w'.cell? ⟨w.heap.size, 2, none⟩ = some (.int .u64 b2)) (ds := [18, 19]) #[false, false, false, false, false, false, false, false, false, false, false, false, false, false, false, false, false, false, false, false] (by kernel_rfl) rfl rfl ⟨u0, u1, u2⟩ (fun hHeld => ?_)
      refine pure_ (i := 0) (N := some 27) (v := ?_) (a' := ?_) #[true, false, false, false, false, false, false, false, false, false, false, false, false, false, false, false, false, false, false, false] rfl rfl (by kernel_rfl) (fun _ _ _ h => h) (Or.inl ⟨by rfl, ?_⟩) ?_ ?_
      rotate_left
      · intro w'
        go_simp
        with_reducible rfl
      rotate_left
      · simp only [Act.put, List.setIfInBounds_toArray, List.set_cons_zero, List.set_cons_succ, i64_w, i32_w]
        rfl
      refine pure_ (i := 1) (N := some 28) (v := ?_) (a' := ?_) #[true, true, false, false, false, false, false, false, false, false, false, false, false, false, false, false, false, false, false, false] rfl rfl (by kernel_rfl) (fun _ _ _ h => h) (Or.inl ⟨by rfl, ?_⟩) ?_ ?_
      rotate_left
      · intro w'
        go_simp
        with_reducible rfl
      rotate_left
      · simp only [Act.put, List.setIfInBounds_toArray, List.set_cons_zero, List.set_cons_succ, i64_w, i32_w]
        rfl
      refine pure_ (i := 3) (N := some 30) (v := ?_) (a' := ?_) #[true, true, false, true, false, false, false, false, false, false, false, false, false, false, false, false, false, false, false, false] rfl rfl (by kernel_rfl) (fun _ _ _ h => h) (Or.inl ⟨by rfl, ?_⟩) ?_ ?_
      rotate_left
      · intro w'
        go_simp
        with_reducible rfl
      rotate_left
      · simp only [Act.put, List.setIfInBounds_toArray, List.set_cons_zero, List.set_cons_succ, i64_w, i32_w]
        rfl
      refine pure_ (i := 5) (N := some 32) (v := ?_) (a' := ?_) #[true, true, false, true, false, true, false, false, false, false, false, false, false, false, false, false, false, false, false, false] rfl rfl (by kernel_rfl) (fun _ _ _ h => h) (Or.inl ⟨by rfl, ?_⟩) ?_ ?_
      rotate_left
      · intro w'
        go_simp
        with_reducible rfl
      rotate_left
      · simp only [Act.put, List.setIfInBounds_toArray, List.set_cons_zero, List.set_cons_succ, i64_w, i32_w]
        rfl
      refine pure_ (i := 8) (N := some 35) (v := ?_) (a' := ?_) #[true, true, false, true, false, true, false, false, true, false, false, false, false, false, false, false, false, false, false, false] rfl rfl (by kernel_rfl) (fun _ _ _ h => h) (Or.inl ⟨by rfl, ?_⟩) ?_ ?_
      rotate_left
      · intro w'
        go_simp
        with_reducible rfl
      rotate_left
      · simp only [Act.put, List.setIfInBounds_toArray, List.set_cons_zero, List.set_cons_succ, i64_w, i32_w]
        rfl
      refine pure_ (i := 9) (N := some 36) (v := ?_) (a' := ?_) #[true, true, false, true, false, true, false, false, true, true, false, false, false, false, false, false, false, false, false, false] rfl rfl (by kernel_rfl) (fun _ _ _ h => h) (Or.inl ⟨by rfl, ?_⟩) ?_ ?_
      rotate_left
      · intro w'
        go_simp
        with_reducible rfl
      rotate_left
      · simp only [Act.put, List.setIfInBounds_toArray, List.set_cons_zero, List.set_cons_succ, i64_w, i32_w]
        rfl
      refine pure_ (i := 11) (N := some 38) (v := ?_) (a' := ?_) #[true, true, false, true, false, true, false, false, true, true, false, true, false, false, false, false, false, false, false, false] rfl rfl (by kernel_rfl) (fun _ _ _ h => h) (Or.inl ⟨by rfl, ?_⟩) ?_ ?_
      rotate_left
      · intro w'
        go_simp
        with_reducible rfl
      rotate_left
      · simp only [Act.put, List.setIfInBounds_toArray, List.set_cons_zero, List.set_cons_succ, i64_w, i32_w]
        rfl
      refine pure_ (i := 13) (N := some 40) (v := ?_) (a' := ?_) #[true, true, false, true, false, true, false, false, true, true, false, true, false, true, false, false, false, false, false, false] rfl rfl (by kernel_rfl) (fun _ _ _ h => h) (Or.inl ⟨by rfl, ?_⟩) ?_ ?_
      rotate_left
      · intro w'
        go_simp
        with_reducible rfl
      rotate_left
      · simp only [Act.put, List.setIfInBounds_toArray, List.set_cons_zero, List.set_cons_succ, i64_w, i32_w]
        rfl
      refine take_ (i := 2) (N := some 29) (v := ?_) (a' := ?_) #[true, true, true, true, false, true, false, false, true, true, false, true, false, true, false, false, false, false, false, false] rfl rfl (by kernel_rfl) (fun _ _ _ h => h) (Or.inl ⟨by rfl, ?_⟩) hHeld ?_ ?_
      rotate_left
      · rintro w' ⟨s0, s1, s2⟩
        go_simp
        with_reducible rfl
      rotate_left
      · simp only [Act.put, List.setIfInBounds_toArray, List.set_cons_zero, List.set_cons_succ, i64_w, i32_w]
        rfl
      refine take_ (i := 4) (N := some 31) (v := ?_) (a' := ?_) #[true, true, true, true, true, true, false, false, true, true, false, true, false, true, false, false, false, false, false, false] rfl rfl (by kernel_rfl) (fun _ _ _ h => h) (Or.inl ⟨by rfl, ?_⟩) hHeld ?_ ?_
      rotate_left
      · rintro w' ⟨s0, s1, s2⟩
        go_simp
        with_reducible rfl
      rotate_left
      · simp only [Act.put, List.setIfInBounds_toArray, List.set_cons_zero, List.set_cons_succ, i64_w, i32_w]
        rfl
      refine take_ (i := 6) (N := some 33) (v := ?_) (a' := ?_) #[true, true, true, true, true, true, true, false, true, true, false, true, false, true, false, false, false, false, false, false] rfl rfl (by kernel_rfl) (fun _ _ _ h => h) (Or.inl ⟨by rfl, ?_⟩) hHeld ?_ ?_
      rotate_left
      · rintro w' ⟨s0, s1, s2⟩
        go_simp
        with_reducible rfl
      rotate_left
      · simp only [Act.put, List.setIfInBounds_toArray, List.set_cons_zero, List.set_cons_succ, i64_w, i32_w]
        rfl
      refine take_ (i := 10) (N := some 37) (v := ?_) (a' := ?_) #[true, true, true, true, true, true, true, false, true, true, true, true, false, true, false, false, false, false, false, false] rfl rfl (by kernel_rfl) (fun _ _ _ h => h) (Or.inl ⟨by rfl, ?_⟩) hHeld ?_ ?_
      rotate_left
      · rintro w' ⟨s0, s1, s2⟩
        go_simp
        with_reducible rfl
      rotate_left
      · simp only [Act.put, List.setIfInBounds_toArray, List.set_cons_zero, List.set_cons_succ, i64_w, i32_w]
        rfl
      refine take_ (i := 12) (N := some 39) (v := ?_) (a' := ?_) #[true, true, true, true, true, true, true, false, true, true, true, true, true, true, false, false, false, false, false, false] rfl rfl (by kernel_rfl) (fun _ _ _ h => h) (Or.inl ⟨by rfl, ?_⟩) hHeld ?_ ?_
      rotate_left
      · rintro w' ⟨s0, s1, s2⟩
        go_simp
        with_reducible rfl
      rotate_left
      · simp only [Act.put, List.setIfInBounds_toArray, List.set_cons_zero, List.set_cons_succ, i64_w, i32_w]
        rfl
      refine take_ (i := 14) (N := some 41) (v := ?_) (a' := ?_) #[true, true, true, true, true, true, true, false, true, true, true, true, true, true, true, false, false, false, false, false] rfl rfl (by kernel_rfl) (fun _ _ _ h => h) (Or.inl ⟨by rfl, ?_⟩) hHeld ?_ ?_
      rotate_left
      · rintro w' ⟨s0, s1, s2⟩
        go_simp
        with_reducible rfl
      rotate_left
      · simp only [Act.put, List.setIfInBounds_toArray, List.set_cons_zero, List.set_cons_succ, i64_w, i32_w]
        rfl
      refine join_ (σ := Option Addr × Nat × Option Addr × Nat × Option Addr × Nat × Option Addr × Nat × Nat × Nat) 2 #[true, true, true, true, true, true, true, true, true, true, true, true, true, true, true, true, true, true, false, false] (fun s_ => [(34, .agg (cE b0 b1 b2 (.slice s_.1 0 s_.2.1) (.slice s_.2.2.1 rm s_.2.2.2.1))), (42, .agg (cE b0 b1 b2 (.slice s_.2.2.2.2.1 0 s_.2.2.2.2.2.1) (.slice s_.2.2.2.2.2.2.1 rm s_.2.2.2.2.2.2.2.1))), (7, .pointer (some ⟨s_.2.2.2.2.2.2.2.2.1, 0, none⟩)), (8, .pointer (some ⟨s_.2.2.2.2.2.2.2.2.2, 0, none⟩))]) (fun s_ w' => (w'.cell? ⟨w.heap.size, 0, none⟩ = some (.int .i64 b0) ∧ w'.cell? ⟨w.heap.size, 1, none⟩ = some (.int .i64 b1) ∧ w'.cell? ⟨w.heap.size, 2, none⟩ = some (.int .u64 b2)) ∧ Below wr.heap.size wr w' ∧ EdR w' wr.heap.size (.slice s_.1 0 s_.2.1) (.slice s_.2.2.1 rm s_.2.2.2.1) [] (whL 0 L) ∧ EdR w' wr.heap.size (.slice s_.2.2.2.2.1 0 s_.2.2.2.2.2.1) (.slice s_.2.2.2.2.2.2.1 rm s_.2.2.2.2.2.2.2.1) [] (whL 0 L) ∧ w'.heap[s_.2.2.2.2.2.2.2.2.1]? = some (.cells zEw 31 (0, 0)) ∧ wr.heap.size ≤ s_.2.2.2.2.2.2.2.2.1 ∧ w'.heap[s_.2.2.2.2.2.2.2.2.2]? = some (.cells zEw 31 (0, 0)) ∧ wr.heap.size ≤ s_.2.2.2.2.2.2.2.2.2 ∧ s_.2.2.2.2.2.2.2.2.1 ≠ s_.2.2.2.2.2.2.2.2.2 ∧ ApartV (.slice s_.1 0 s_.2.1) (.slice s_.2.2.1 rm s_.2.2.2.1) (.slice s_.2.2.2.2.1 0 s_.2.2.2.2.2.1) (.slice s_.2.2.2.2.2.2.1 rm s_.2.2.2.2.2.2.2.1)) ?_ ?_
      rotate_left
      · intro hJ7_15_16_17
        refine join_ (σ := Option Addr × Nat × Option Addr × Nat × Option Addr × Nat × Option Addr × Nat × Nat) 3 #[true, true, true, true, true, true, true, true, true, true, true, true, true, true, true, true, true, false, false, false] (fun s_ => [(34, .agg (cE b0 b1 b2 (.slice s_.1 0 s_.2.1) (.slice s_.2.2.1 rm s_.2.2.2.1))), (42, .agg (cE b0 b1 b2 (.slice s_.2.2.2.2.1 0 s_.2.2.2.2.2.1) (.slice s_.2.2.2.2.2.2.1 rm s_.2.2.2.2.2.2.2.1))), (7, .pointer (some ⟨s_.2.2.2.2.2.2.2.2, 0, none⟩))]) (fun s_ w' => (w'.cell? ⟨w.heap.size, 0, none⟩ = some (.int .i64 b0) ∧ w'.cell? ⟨w.heap.size, 1, none⟩ = some (.int .i64 b1) ∧ w'.cell? ⟨w.heap.size, 2, none⟩ = some (.int .u64 b2)) ∧ Below wr.heap.size wr w' ∧ EdR w' wr.heap.size (.slice s_.1 0 s_.2.1) (.slice s_.2.2.1 rm s_.2.2.2.1) [] (whL 0 L) ∧ EdR w' wr.heap.size (.slice s_.2.2.2.2.1 0 s_.2.2.2.2.2.1) (.slice s_.2.2.2.2.2.2.1 rm s_.2.2.2.2.2.2.2.1) [] (whL 0 L) ∧ w'.heap[s_.2.2.2.2.2.2.2.2]? = some (.cells zEw 31 (0, 0)) ∧ wr.heap.size ≤ s_.2.2.2.2.2.2.2.2 ∧ ApartV (.slice s_.1 0 s_.2.1) (.slice s_.2.2.1 rm s_.2.2.2.1) (.slice s_.2.2.2.2.1 0 s_.2.2.2.2.2.1) (.slice s_.2.2.2.2.2.2.1 rm s_.2.2.2.2.2.2.2.1)) ?_ ?_
        rotate_left
        · intro hJ7_15_16
          refine join_ (σ := Option Addr × Nat × Option Addr × Nat × Option Addr × Nat × Option Addr × Nat × Nat) 3 #[true, true, true, true, true, true, true, true, true, true, true, true, true, true, true, true, false, true, false, false] (fun s_ => [(34, .agg (cE b0 b1 b2 (.slice s_.1 0 s_.2.1) (.slice s_.2.2.1 rm s_.2.2.2.1))), (42, .agg (cE b0 b1 b2 (.slice s_.2.2.2.2.1 0 s_.2.2.2.2.2.1) (.slice s_.2.2.2.2.2.2.1 rm s_.2.2.2.2.2.2.2.1))), (8, .pointer (some ⟨s_.2.2.2.2.2.2.2.2, 0, none⟩))]) (fun s_ w' => (w'.cell? ⟨w.heap.size, 0, none⟩ = some (.int .i64 b0) ∧ w'.cell? ⟨w.heap.size, 1, none⟩ = some (.int .i64 b1) ∧ w'.cell? ⟨w.heap.size, 2, none⟩ = some (.int .u64 b2)) ∧ Below wr.heap.size wr w' ∧ EdR w' wr.heap.size (.slice s_.1 0 s_.2.1) (.slice s_.2.2.1 rm s_.2.2.2.1) [] (whL 0 L) ∧ EdR w' wr.heap.size (.slice s_.2.2.2.2.1 0 s_.2.2.2.2.2.1) (.slice s_.2.2.2.2.2.2.1 rm s_.2.2.2.2.2.2.2.1) [] (whL 0 L) ∧ w'.heap[s_.2.2.2.2.2.2.2.2]? = some (.cells zEw 31 (0, 0)) ∧ wr.heap.size ≤ s_.2.2.2.2.2.2.2.2 ∧ ApartV (.slice s_.1 0 s_.2.1) (.slice s_.2.2.1 rm s_.2.2.2.1) (.slice s_.2.2.2.2.1 0 s_.2.2.2.2.2.1) (.slice s_.2.2.2.2.2.2.1 rm s_.2.2.2.2.2.2.2.1)) ?_ ?_
          rotate_left
          · intro hJ7_15_17
            refine join_ (σ := Option Addr × Nat × Option Addr × Nat × Nat × Nat) 3 #[true, true, true, true, true, true, true, true, true, true, true, true, true, true, true, false, true, true, false, false] (fun s_ => [(34, .agg (cE b0 b1 b2 (.slice s_.1 0 s_.2.1) (.slice s_.2.2.1 rm s_.2.2.2.1))), (7, .pointer (some ⟨s_.2.2.2.2.1, 0, none⟩)), (8, .pointer (some ⟨s_.2.2.2.2.2, 0, none⟩))]) (fun s_ w' => (w'.cell? ⟨w.heap.size, 0, none⟩ = some (.int .i64 b0) ∧ w'.cell? ⟨w.heap.size, 1, none⟩ = some (.int .i64 b1) ∧ w'.cell? ⟨w.heap.size, 2, none⟩ = some (.int .u64 b2)) ∧ Below wr.heap.size wr w' ∧ EdR w' wr.heap.size (.slice s_.1 0 s_.2.1) (.slice s_.2.2.1 rm s_.2.2.2.1) [] (whL 0 L) ∧ w'.heap[s_.2.2.2.2.1]? = some (.cells zEw 31 (0, 0)) ∧ wr.heap.size ≤ s_.2.2.2.2.1 ∧ w'.heap[s_.2.2.2.2.2]? = some (.cells zEw 31 (0, 0)) ∧ wr.heap.size ≤ s_.2.2.2.2.2 ∧ s_.2.2.2.2.1 ≠ s_.2.2.2.2.2) ?_ ?_
            rotate_left
            · intro hJ7_16_17
              refine join_ (σ := Option Addr × Nat × Option Addr × Nat × Option Addr × Nat × Option Addr × Nat) 4 #[true, true, true, true, true, true, true, true, true, true, true, true, true, true, true, true, false, false, false, false] (fun s_ => [(34, .agg (cE b0 b1 b2 (.slice s_.1 0 s_.2.1) (.slice s_.2.2.1 rm s_.2.2.2.1))), (42, .agg (cE b0 b1 b2 (.slice s_.2.2.2.2.1 0 s_.2.2.2.2.2.1) (.slice s_.2.2.2.2.2.2.1 rm s_.2.2.2.2.2.2.2)))]) (fun s_ w' => (w'.cell? ⟨w.heap.size, 0, none⟩ = some (.int .i64 b0) ∧ w'.cell? ⟨w.heap.size, 1, none⟩ = some (.int .i64 b1) ∧ w'.cell? ⟨w.heap.size, 2, none⟩ = some (.int .u64 b2)) ∧ Below wr.heap.size wr w' ∧ EdR w' wr.heap.size (.slice s_.1 0 s_.2.1) (.slice s_.2.2.1 rm s_.2.2.2.1) [] (whL 0 L) ∧ EdR w' wr.heap.size (.slice s_.2.2.2.2.1 0 s_.2.2.2.2.2.1) (.slice s_.2.2.2.2.2.2.1 rm s_.2.2.2.2.2.2.2) [] (whL 0 L) ∧ ApartV (.slice s_.1 0 s_.2.1) (.slice s_.2.2.1 rm s_.2.2.2.1) (.slice s_.2.2.2.2.1 0 s_.2.2.2.2.2.1) (.slice s_.2.2.2.2.2.2.1 rm s_.2.2.2.2.2.2.2)) ?_ ?_
              rotate_left
              · intro hJ7_15
                refine join_ (σ := Option Addr × Nat × Option Addr × Nat × Nat) 4 #[true, true, true, true, true, true, true, true, true, true, true, true, true, true, true, false, true, false, false, false] (fun s_ => [(34, .agg (cE b0 b1 b2 (.slice s_.1 0 s_.2.1) (.slice s_.2.2.1 rm s_.2.2.2.1))), (7, .pointer (some ⟨s_.2.2.2.2, 0, none⟩))]) (fun s_ w' => (w'.cell? ⟨w.heap.size, 0, none⟩ = some (.int .i64 b0) ∧ w'.cell? ⟨w.heap.size, 1, none⟩ = some (.int .i64 b1) ∧ w'.cell? ⟨w.heap.size, 2, none⟩ = some (.int .u64 b2)) ∧ Below wr.heap.size wr w' ∧ EdR w' wr.heap.size (.slice s_.1 0 s_.2.1) (.slice s_.2.2.1 rm s_.2.2.2.1) [] (whL 0 L) ∧ w'.heap[s_.2.2.2.2]? = some (.cells zEw 31 (0, 0)) ∧ wr.heap.size ≤ s_.2.2.2.2) ?_ ?_
                rotate_left
                · intro hJ7_16
                  refine join_ (σ := Option Addr × Nat × Option Addr × Nat × Nat) 4 #[true, true, true, true, true, true, true, true, true, true, true, true, true, true, true, false, false, true, false, false] (fun s_ => [(34, .agg (cE b0 b1 b2 (.slice s_.1 0 s_.2.1) (.slice s_.2.2.1 rm s_.2.2.2.1))), (8, .pointer (some ⟨s_.2.2.2.2, 0, none⟩))]) (fun s_ w' => (w'.cell? ⟨w.heap.size, 0, none⟩ = some (.int .i64 b0) ∧ w'.cell? ⟨w.heap.size, 1, none⟩ = some (.int .i64 b1) ∧ w'.cell? ⟨w.heap.size, 2, none⟩ = some (.int .u64 b2)) ∧ Below wr.heap.size wr w' ∧ EdR w' wr.heap.size (.slice s_.1 0 s_.2.1) (.slice s_.2.2.1 rm s_.2.2.2.1) [] (whL 0 L) ∧ w'.heap[s_.2.2.2.2]? = some (.cells zEw 31 (0, 0)) ∧ wr.heap.size ≤ s_.2.2.2.2) ?_ ?_
                  rotate_left
                  · intro hJ7_17
                    refine join_ (σ := Nat × Nat) 4 #[true, true, true, true, true, true, true, false, true, true, true, true, true, true, true, false, true, true, false, false] (fun s_ => [(7, .pointer (some ⟨s_.1, 0, none⟩)), (8, .pointer (some ⟨s_.2, 0, none⟩))]) (fun s_ w' => (w'.cell? ⟨w.heap.size, 0, none⟩ = some (.int .i64 b0) ∧ w'.cell? ⟨w.heap.size, 1, none⟩ = some (.int .i64 b1) ∧ w'.cell? ⟨w.heap.size, 2, none⟩ = some (.int .u64 b2)) ∧ Below wr.heap.size wr w' ∧ w'.heap[s_.1]? = some (.cells zEw 31 (0, 0)) ∧ wr.heap.size ≤ s_.1 ∧ w'.heap[s_.2]? = some (.cells zEw 31 (0, 0)) ∧ wr.heap.size ≤ s_.2 ∧ s_.1 ≠ s_.2) ?_ ?_
                    rotate_left
                    · intro hJ16_17
                      refine join_ (σ := Option Addr × Nat × Option Addr × Nat) 5 #[true, true, true, true, true, true, true, true, true, true, true, true, true, true, true, false, false, false, false, false] (fun s_ => [(34, .agg (cE b0 b1 b2 (.slice s_.1 0 s_.2.1) (.slice s_.2.2.1 rm s_.2.2.2)))]) (fun s_ w' => (w'.cell? ⟨w.heap.size, 0, none⟩ = some (.int .i64 b0) ∧ w'.cell? ⟨w.heap.size, 1, none⟩ = some (.int .i64 b1) ∧ w'.cell? ⟨w.heap.size, 2, none⟩ = some (.int .u64 b2)) ∧ Below wr.heap.size wr w' ∧ EdR w' wr.heap.size (.slice s_.1 0 s_.2.1) (.slice s_.2.2.1 rm s_.2.2.2) [] (whL 0 L)) ?_ ?_
                      rotate_left
                      · intro hJ7
                        refine join_ (σ := Nat) 5 #[true, true, true, true, true, true, true, false, true, true, true, true, true, true, true, false, true, false, false, false] (fun s_ => [(7, .pointer (some ⟨s_, 0, none⟩))]) (fun s_ w' => (w'.cell? ⟨w.heap.size, 0, none⟩ = some (.int .i64 b0) ∧ w'.cell? ⟨w.heap.size, 1, none⟩ = some (.int .i64 b1) ∧ w'.cell? ⟨w.heap.size, 2, none⟩ = some (.int .u64 b2)) ∧ Below wr.heap.size wr w' ∧ w'.heap[s_]? = some (.cells zEw 31 (0, 0)) ∧ wr.heap.size ≤ s_) ?_ ?_
                        rotate_left
                        · intro hJ16
                          refine join_ (σ := Nat) 5 #[true, true, true, true, true, true, true, false, true, true, true, true, true, true, true, false, false, true, false, false] (fun s_ => [(8, .pointer (some ⟨s_, 0, none⟩))]) (fun s_ w' => (w'.cell? ⟨w.heap.size, 0, none⟩ = some (.int .i64 b0) ∧ w'.cell? ⟨w.heap.size, 1, none⟩ = some (.int .i64 b1) ∧ w'.cell? ⟨w.heap.size, 2, none⟩ = some (.int .u64 b2)) ∧ Below wr.heap.size wr w' ∧ w'.heap[s_]? = some (.cells zEw 31 (0, 0)) ∧ wr.heap.size ≤ s_) ?_ ?_
                          rotate_left
                          · intro hJ17
                            refine three_ (i := 7) (j := 16) (k := 17) (Ni := some 34) (Nj := some 7) (Nk := some 8) #[true, true, true, true, true, true, true, true, true, true, true, true, true, true, true, false, false, false, false, false] #[true, true, true, true, true, true, true, false, true, true, true, true, true, true, true, false, true, false, false, false] #[true, true, true, true, true, true, true, false, true, true, true, true, true, true, true, false, false, true, false, false] rfl rfl rfl rfl rfl rfl (by kernel_rfl) (by decide) (by decide) (by decide) (fun K hK => ?_) (fun K hK => ?_) (fun K hK => ?_)
                            · skip
                              refine goes_ Try.func6 (by kernel_rfl) rfl #[.slice Ai n ci, .int .i64 b0, .int .i64 b1, .int .u64 b2] (by rfl) rfl rfl (by simp only [List.map_toArray, List.map_cons, List.map_nil]; rfl) ?_
                              with_reducible refine (HCI.out _ (below_drew1 (Below.refl _ _))).mono ?_
                              rintro e wn ⟨X3, x3, X4, x4, rfl, hr, hb⟩
                              refine ⟨_, rfl, ?_⟩
                              have HBN := Aside0.mk (show Below wr.heap.size wr wn from below_step (below_drew1 (Below.refl _ _)) hb)
                              have HE7 := Aside0.mk (hr.lower (below_size (below_drew1 (Below.refl _ _))))
                              clear hr hb
                              refine hK.out _ _ ⟨pw_cell_below HBN.out u0, pw_cell_below HBN.out u1, pw_cell_below HBN.out u2⟩ (fun hHeld => ?_)
                              clear hK K
                              refine norm_ (a' := ?_) ?_ ?_
                              rotate_left
                              · show Act.put _ (some 34) _ = _
                                simp only [Act.put, List.setIfInBounds_toArray, List.set_cons_zero, List.set_cons_succ, i64_w, i32_w]
                                rfl
                              exact norm_ (by first | (simp only [putAll, Act.put, List.setIfInBounds_toArray, List.set_cons_zero, List.set_cons_succ]; done) | (simp only [putAll, Act.put, List.setIfInBounds_toArray, List.set_cons_zero, List.set_cons_succ]; rfl)) (hJ7 (X3, x3, X4, x4) _ ⟨hHeld, HBN.out, HE7.out⟩)
                            · skip
                              refine box_step (by rfl) (N := 7) rfl (cs := zEw) (t := 31) (by first | (go_simp; done) | (go_simp; rfl)) ?_
                              intro g7 hgo wn hbox hb
                              have HBN := Aside0.mk (show Below wr.heap.size wr wn from below_step (below_drew1 (Below.refl _ _)) hb)
                              have HX16 := Aside0.mk hbox
                              have HG16 := Aside0.mk (show wr.heap.size ≤ g7 by rw [hgo]; exact below_size (below_drew1 (Below.refl _ _)))
                              clear hgo hbox hb
                              refine hK.out _ _ ⟨pw_cell_below HBN.out u0, pw_cell_below HBN.out u1, pw_cell_below HBN.out u2⟩ (fun hHeld => ?_)
                              clear hK K
                              refine norm_ (a' := ?_) ?_ ?_
                              rotate_left
                              · show Act.put _ (some 7) _ = _
                                simp only [Act.put, List.setIfInBounds_toArray, List.set_cons_zero, List.set_cons_succ, i64_w, i32_w]
                                rfl
                              exact norm_ (by first | (simp only [putAll, Act.put, List.setIfInBounds_toArray, List.set_cons_zero, List.set_cons_succ]; done) | (simp only [putAll, Act.put, List.setIfInBounds_toArray, List.set_cons_zero, List.set_cons_succ]; rfl)) (hJ16 g7 _ ⟨hHeld, HBN.out, HX16.out, HG16.out⟩)
                            · skip
                              refine box_step (by rfl) (N := 8) rfl (cs := zEw) (t := 31) (by first | (go_simp; done) | (go_simp; rfl)) ?_
                              intro g8 hgo wn hbox hb
                              have HBN := Aside0.mk (show Below wr.heap.size wr wn from below_step (below_drew1 (Below.refl _ _)) hb)
                              have HX17 := Aside0.mk hbox
                              have HG17 := Aside0.mk (show wr.heap.size ≤ g8 by rw [hgo]; exact below_size (below_drew1 (Below.refl _ _)))
                              clear hgo hbox hb
                              refine hK.out _ _ ⟨pw_cell_below HBN.out u0, pw_cell_below HBN.out u1, pw_cell_below HBN.out u2⟩ (fun hHeld => ?_)
                              clear hK K
                              refine norm_ (a' := ?_) ?_ ?_
                              rotate_left
                              · show Act.put _ (some 8) _ = _
                                simp only [Act.put, List.setIfInBounds_toArray, List.set_cons_zero, List.set_cons_succ, i64_w, i32_w]
                                rfl
                              exact norm_ (by first | (simp only [putAll, Act.put, List.setIfInBounds_toArray, List.set_cons_zero, List.set_cons_succ]; done) | (simp only [putAll, Act.put, List.setIfInBounds_toArray, List.set_cons_zero, List.set_cons_succ]; rfl)) (hJ17 g8 _ ⟨hHeld, HBN.out, HX17.out, HG17.out⟩)
                          · skip
                            rintro g8 wf ⟨hS_, h0_, h1_, h2_⟩
                            have HBW := Aside0.mk (show Below wr.heap.size wr wf from h0_)
                            have HX17 := Aside0.mk (show wf.heap[g8]? = some (.cells zEw 31 (0, 0)) from h1_)
                            have HG17 := Aside0.mk (show wr.heap.size ≤ g8 from h2_)
                            clear h0_ h1_ h2_
                            have hHeld := hS_
                            refine norm_ (a' := ?_) ?_ ?_
                            rotate_left
                            · simp only [putAll, Act.put, List.setIfInBounds_toArray, List.set_cons_zero, List.set_cons_succ]
                              rfl
                            refine two_ (i := 7) (j := 16) (Ni := some 34) (Nj := some 7) #[true, true, true, true, true, true, true, true, true, true, true, true, true, true, true, false, false, true, false, false] #[true, true, true, true, true, true, true, false, true, true, true, true, true, true, true, false, true, true, false, false] rfl rfl rfl rfl (by kernel_rfl) (by decide) (by decide) (fun K hK => ?_) (fun K hK => ?_)
                            · skip
                              refine goes_ Try.func6 (by kernel_rfl) rfl #[.slice Ai n ci, .int .i64 b0, .int .i64 b1, .int .u64 b2] (by rfl) rfl rfl (by simp only [List.map_toArray, List.map_cons, List.map_nil]; rfl) ?_
                              with_reducible refine (HCI.out _ HBW.out).mono ?_
                              rintro e wn ⟨X3, x3, X4, x4, rfl, hr, hb⟩
                              refine ⟨_, rfl, ?_⟩
                              have HBN := Aside0.mk (show Below wr.heap.size wr wn from below_step HBW.out hb)
                              have HX17 := Aside0.mk (blk_below HX17.out hb)
                              have HE7 := Aside0.mk (hr.lower (below_size HBW.out))
                              clear hr hb
                              refine hK.out _ _ ⟨pw_cell_below HBN.out u0, pw_cell_below HBN.out u1, pw_cell_below HBN.out u2⟩ (fun hHeld => ?_)
                              clear hK K
                              refine norm_ (a' := ?_) ?_ ?_
                              rotate_left
                              · show Act.put _ (some 34) _ = _
                                simp only [Act.put, List.setIfInBounds_toArray, List.set_cons_zero, List.set_cons_succ, i64_w, i32_w]
                                rfl
                              exact norm_ (by first | (simp only [putAll, Act.put, List.setIfInBounds_toArray, List.set_cons_zero, List.set_cons_succ]; done) | (simp only [putAll, Act.put, List.setIfInBounds_toArray, List.set_cons_zero, List.set_cons_succ]; rfl)) (hJ7_17 (X3, x3, X4, x4, g8) _ ⟨hHeld, HBN.out, HE7.out, HX17.out, HG17.out⟩)
                            · skip
                              refine box_step (by rfl) (N := 7) rfl (cs := zEw) (t := 31) (by first | (go_simp; done) | (go_simp; rfl)) ?_
                              intro g7 hgo wn hbox hb
                              have HBN := Aside0.mk (show Below wr.heap.size wr wn from below_step HBW.out hb)
                              have HNE := Aside0.mk (show g7 ≠ g8 by have h9 := blk_lt HX17.out; rw [hgo]; omega)
                              have HX17 := Aside0.mk (blk_below HX17.out hb)
                              have HX16 := Aside0.mk hbox
                              have HG16 := Aside0.mk (show wr.heap.size ≤ g7 by rw [hgo]; exact below_size HBW.out)
                              clear hgo hbox hb
                              refine hK.out _ _ ⟨pw_cell_below HBN.out u0, pw_cell_below HBN.out u1, pw_cell_below HBN.out u2⟩ (fun hHeld => ?_)
                              clear hK K
                              refine norm_ (a' := ?_) ?_ ?_
                              rotate_left
                              · show Act.put _ (some 7) _ = _
                                simp only [Act.put, List.setIfInBounds_toArray, List.set_cons_zero, List.set_cons_succ, i64_w, i32_w]
                                rfl
                              exact norm_ (by first | (simp only [putAll, Act.put, List.setIfInBounds_toArray, List.set_cons_zero, List.set_cons_succ]; done) | (simp only [putAll, Act.put, List.setIfInBounds_toArray, List.set_cons_zero, List.set_cons_succ]; rfl)) (hJ16_17 (g7, g8) _ ⟨hHeld, HBN.out, HX16.out, HG16.out, HX17.out, HG17.out, HNE.out⟩)
                        · skip
                          rintro g7 wf ⟨hS_, h0_, h1_, h2_⟩
                          have HBW := Aside0.mk (show Below wr.heap.size wr wf from h0_)
                          have HX16 := Aside0.mk (show wf.heap[g7]? = some (.cells zEw 31 (0, 0)) from h1_)
                          have HG16 := Aside0.mk (show wr.heap.size ≤ g7 from h2_)
                          clear h0_ h1_ h2_
                          have hHeld := hS_
                          refine norm_ (a' := ?_) ?_ ?_
                          rotate_left
                          · simp only [putAll, Act.put, List.setIfInBounds_toArray, List.set_cons_zero, List.set_cons_succ]
                            rfl
                          refine two_ (i := 7) (j := 17) (Ni := some 34) (Nj := some 8) #[true, true, true, true, true, true, true, true, true, true, true, true, true, true, true, false, true, false, false, false] #[true, true, true, true, true, true, true, false, true, true, true, true, true, true, true, false, true, true, false, false] rfl rfl rfl rfl (by kernel_rfl) (by decide) (by decide) (fun K hK => ?_) (fun K hK => ?_)
                          · skip
                            refine goes_ Try.func6 (by kernel_rfl) rfl #[.slice Ai n ci, .int .i64 b0, .int .i64 b1, .int .u64 b2] (by rfl) rfl rfl (by simp only [List.map_toArray, List.map_cons, List.map_nil]; rfl) ?_
                            with_reducible refine (HCI.out _ HBW.out).mono ?_
                            rintro e wn ⟨X3, x3, X4, x4, rfl, hr, hb⟩
                            refine ⟨_, rfl, ?_⟩
                            have HBN := Aside0.mk (show Below wr.heap.size wr wn from below_step HBW.out hb)
                            have HX16 := Aside0.mk (blk_below HX16.out hb)
                            have HE7 := Aside0.mk (hr.lower (below_size HBW.out))
                            clear hr hb
                            refine hK.out _ _ ⟨pw_cell_below HBN.out u0, pw_cell_below HBN.out u1, pw_cell_below HBN.out u2⟩ (fun hHeld => ?_)
                            clear hK K
                            refine norm_ (a' := ?_) ?_ ?_
                            rotate_left
                            · show Act.put _ (some 34) _ = _
                              simp only [Act.put, List.setIfInBounds_toArray, List.set_cons_zero, List.set_cons_succ, i64_w, i32_w]
                              rfl
                            exact norm_ (by first | (simp only [putAll, Act.put, List.setIfInBounds_toArray, List.set_cons_zero, List.set_cons_succ]; done) | (simp only [putAll, Act.put, List.setIfInBounds_toArray, List.set_cons_zero, List.set_cons_succ]; rfl)) (hJ7_16 (X3, x3, X4, x4, g7) _ ⟨hHeld, HBN.out, HE7.out, HX16.out, HG16.out⟩)
                          · skip
                            refine box_step (by rfl) (N := 8) rfl (cs := zEw) (t := 31) (by first | (go_simp; done) | (go_simp; rfl)) ?_
                            intro g8 hgo wn hbox hb
                            have HBN := Aside0.mk (show Below wr.heap.size wr wn from below_step HBW.out hb)
                            have HNE := Aside0.mk (show g7 ≠ g8 by have h9 := blk_lt HX16.out; rw [hgo]; omega)
                            have HX16 := Aside0.mk (blk_below HX16.out hb)
                            have HX17 := Aside0.mk hbox
                            have HG17 := Aside0.mk (show wr.heap.size ≤ g8 by rw [hgo]; exact below_size HBW.out)
                            clear hgo hbox hb
                            refine hK.out _ _ ⟨pw_cell_below HBN.out u0, pw_cell_below HBN.out u1, pw_cell_below HBN.out u2⟩ (fun hHeld => ?_)
                            clear hK K
                            refine norm_ (a' := ?_) ?_ ?_
                            rotate_left
                            · show Act.put _ (some 8) _ = _
                              simp only [Act.put, List.setIfInBounds_toArray, List.set_cons_zero, List.set_cons_succ, i64_w, i32_w]
                              rfl
                            exact norm_ (by first | (simp only [putAll, Act.put, List.setIfInBounds_toArray, List.set_cons_zero, List.set_cons_succ]; done) | (simp only [putAll, Act.put, List.setIfInBounds_toArray, List.set_cons_zero, List.set_cons_succ]; rfl)) (hJ16_17 (g7, g8) _ ⟨hHeld, HBN.out, HX16.out, HG16.out, HX17.out, HG17.out, HNE.out⟩)
                      · skip
                        rintro ⟨X3, x3, X4, x4⟩ wf ⟨hS_, h0_, h1_⟩
                        have HBW := Aside0.mk (show Below wr.heap.size wr wf from h0_)
                        have HE7 := Aside0.mk (show EdR wf wr.heap.size (.slice X3 0 x3) (.slice X4 rm x4) [] (whL 0 L) from h1_)
                        clear h0_ h1_
                        have hHeld := hS_
                        refine norm_ (a' := ?_) ?_ ?_
                        rotate_left
                        · simp only [putAll, Act.put, List.setIfInBounds_toArray, List.set_cons_zero, List.set_cons_succ]
                          rfl
                        refine three_ (i := 15) (j := 16) (k := 17) (Ni := some 42) (Nj := some 7) (Nk := some 8) #[true, true, true, true, true, true, true, true, true, true, true, true, true, true, true, true, false, false, false, false] #[true, true, true, true, true, true, true, true, true, true, true, true, true, true, true, false, true, false, false, false] #[true, true, true, true, true, true, true, true, true, true, true, true, true, true, true, false, false, true, false, false] rfl rfl rfl rfl rfl rfl (by kernel_rfl) (by decide) (by decide) (by decide) (fun K hK => ?_) (fun K hK => ?_) (fun K hK => ?_)
                        · skip
                          refine goes_ Try.func6 (by kernel_rfl) rfl #[.slice Ai n ci, .int .i64 b0, .int .i64 b1, .int .u64 b2] (by rfl) rfl rfl (by simp only [List.map_toArray, List.map_cons, List.map_nil]; rfl) ?_
                          with_reducible refine (HCI.out _ HBW.out).mono ?_
                          rintro e wn ⟨Y3, y3, Y4, y4, rfl, hr, hb⟩
                          refine ⟨_, rfl, ?_⟩
                          have HBN := Aside0.mk (show Below wr.heap.size wr wn from below_step HBW.out hb)
                          have HAP := Aside0.mk (HE7.out.apart hr)
                          have HE7 := Aside0.mk (HE7.out.below hb)
                          have HE15 := Aside0.mk (hr.lower (below_size HBW.out))
                          clear hr hb
                          refine hK.out _ _ ⟨pw_cell_below HBN.out u0, pw_cell_below HBN.out u1, pw_cell_below HBN.out u2⟩ (fun hHeld => ?_)
                          clear hK K
                          refine norm_ (a' := ?_) ?_ ?_
                          rotate_left
                          · show Act.put _ (some 42) _ = _
                            simp only [Act.put, List.setIfInBounds_toArray, List.set_cons_zero, List.set_cons_succ, i64_w, i32_w]
                            rfl
                          exact norm_ (by first | (simp only [putAll, Act.put, List.setIfInBounds_toArray, List.set_cons_zero, List.set_cons_succ]; done) | (simp only [putAll, Act.put, List.setIfInBounds_toArray, List.set_cons_zero, List.set_cons_succ]; rfl)) (hJ7_15 (X3, x3, X4, x4, Y3, y3, Y4, y4) _ ⟨hHeld, HBN.out, HE7.out, HE15.out, HAP.out⟩)
                        · skip
                          refine box_step (by rfl) (N := 7) rfl (cs := zEw) (t := 31) (by first | (go_simp; done) | (go_simp; rfl)) ?_
                          intro g7 hgo wn hbox hb
                          have HBN := Aside0.mk (show Below wr.heap.size wr wn from below_step HBW.out hb)
                          have HE7 := Aside0.mk (HE7.out.below hb)
                          have HX16 := Aside0.mk hbox
                          have HG16 := Aside0.mk (show wr.heap.size ≤ g7 by rw [hgo]; exact below_size HBW.out)
                          clear hgo hbox hb
                          refine hK.out _ _ ⟨pw_cell_below HBN.out u0, pw_cell_below HBN.out u1, pw_cell_below HBN.out u2⟩ (fun hHeld => ?_)
                          clear hK K
                          refine norm_ (a' := ?_) ?_ ?_
                          rotate_left
                          · show Act.put _ (some 7) _ = _
                            simp only [Act.put, List.setIfInBounds_toArray, List.set_cons_zero, List.set_cons_succ, i64_w, i32_w]
                            rfl
                          exact norm_ (by first | (simp only [putAll, Act.put, List.setIfInBounds_toArray, List.set_cons_zero, List.set_cons_succ]; done) | (simp only [putAll, Act.put, List.setIfInBounds_toArray, List.set_cons_zero, List.set_cons_succ]; rfl)) (hJ7_16 (X3, x3, X4, x4, g7) _ ⟨hHeld, HBN.out, HE7.out, HX16.out, HG16.out⟩)
                        · skip
                          refine box_step (by rfl) (N := 8) rfl (cs := zEw) (t := 31) (by first | (go_simp; done) | (go_simp; rfl)) ?_
                          intro g8 hgo wn hbox hb
                          have HBN := Aside0.mk (show Below wr.heap.size wr wn from below_step HBW.out hb)
                          have HE7 := Aside0.mk (HE7.out.below hb)
                          have HX17 := Aside0.mk hbox
                          have HG17 := Aside0.mk (show wr.heap.size ≤ g8 by rw [hgo]; exact below_size HBW.out)
                          clear hgo hbox hb
                          refine hK.out _ _ ⟨pw_cell_below HBN.out u0, pw_cell_below HBN.out u1, pw_cell_below HBN.out u2⟩ (fun hHeld => ?_)
                          clear hK K
                          refine norm_ (a' := ?_) ?_ ?_
                          rotate_left
                          · show Act.put _ (some 8) _ = _
                            simp only [Act.put, List.setIfInBounds_toArray, List.set_cons_zero, List.set_cons_succ, i64_w, i32_w]
                            rfl
                          exact norm_ (by first | (simp only [putAll, Act.put, List.setIfInBounds_toArray, List.set_cons_zero, List.set_cons_succ]; done) | (simp only [putAll, Act.put, List.setIfInBounds_toArray, List.set_cons_zero, List.set_cons_succ]; rfl)) (hJ7_17 (X3, x3, X4, x4, g8) _ ⟨hHeld, HBN.out, HE7.out, HX17.out, HG17.out⟩)
                    · skip
                      rintro ⟨g7, g8⟩ wf ⟨hS_, h0_, h1_, h2_, h3_, h4_, h5_⟩
                      have HBW := Aside0.mk (show Below wr.heap.size wr wf from h0_)
                      have HX16 := Aside0.mk (show wf.heap[g7]? = some (.cells zEw 31 (0, 0)) from h1_)
                      have HG16 := Aside0.mk (show wr.heap.size ≤ g7 from h2_)
                      have HX17 := Aside0.mk (show wf.heap[g8]? = some (.cells zEw 31 (0, 0)) from h3_)
                      have HG17 := Aside0.mk (show wr.heap.size ≤ g8 from h4_)
                      have HNE := Aside0.mk (show g7 ≠ g8 from h5_)
                      clear h0_ h1_ h2_ h3_ h4_ h5_
                      have hHeld := hS_
                      refine norm_ (a' := ?_) ?_ ?_
                      rotate_left
                      · simp only [putAll, Act.put, List.setIfInBounds_toArray, List.set_cons_zero, List.set_cons_succ]
                        rfl
                      refine one_ (i := 7) (N := some 34) #[true, true, true, true, true, true, true, true, true, true, true, true, true, true, true, false, true, true, false, false] rfl rfl (by kernel_rfl) (by decide) (fun K hK => ?_)
                      refine goes_ Try.func6 (by kernel_rfl) rfl #[.slice Ai n ci, .int .i64 b0, .int .i64 b1, .int .u64 b2] (by rfl) rfl rfl (by simp only [List.map_toArray, List.map_cons, List.map_nil]; rfl) ?_
                      with_reducible refine (HCI.out _ HBW.out).mono ?_
                      rintro e wn ⟨X3, x3, X4, x4, rfl, hr, hb⟩
                      refine ⟨_, rfl, ?_⟩
                      have HBN := Aside0.mk (show Below wr.heap.size wr wn from below_step HBW.out hb)
                      have HX16 := Aside0.mk (blk_below HX16.out hb)
                      have HX17 := Aside0.mk (blk_below HX17.out hb)
                      have HE7 := Aside0.mk (hr.lower (below_size HBW.out))
                      clear hr hb
                      refine hK.out _ _ ⟨pw_cell_below HBN.out u0, pw_cell_below HBN.out u1, pw_cell_below HBN.out u2⟩ (fun hHeld => ?_)
                      clear hK K
                      refine norm_ (a' := ?_) ?_ ?_
                      rotate_left
                      · show Act.put _ (some 34) _ = _
                        simp only [Act.put, List.setIfInBounds_toArray, List.set_cons_zero, List.set_cons_succ, i64_w, i32_w]
                        rfl
                      exact norm_ (by first | (simp only [putAll, Act.put, List.setIfInBounds_toArray, List.set_cons_zero, List.set_cons_succ]; done) | (simp only [putAll, Act.put, List.setIfInBounds_toArray, List.set_cons_zero, List.set_cons_succ]; rfl)) (hJ7_16_17 (X3, x3, X4, x4, g7, g8) _ ⟨hHeld, HBN.out, HE7.out, HX16.out, HG16.out, HX17.out, HG17.out, HNE.out⟩)
                  · skip
                    rintro ⟨X3, x3, X4, x4, g8⟩ wf ⟨hS_, h0_, h1_, h2_, h3_⟩
                    have HBW := Aside0.mk (show Below wr.heap.size wr wf from h0_)
                    have HE7 := Aside0.mk (show EdR wf wr.heap.size (.slice X3 0 x3) (.slice X4 rm x4) [] (whL 0 L) from h1_)
                    have HX17 := Aside0.mk (show wf.heap[g8]? = some (.cells zEw 31 (0, 0)) from h2_)
                    have HG17 := Aside0.mk (show wr.heap.size ≤ g8 from h3_)
                    clear h0_ h1_ h2_ h3_
                    have hHeld := hS_
                    refine norm_ (a' := ?_) ?_ ?_
                    rotate_left
                    · simp only [putAll, Act.put, List.setIfInBounds_toArray, List.set_cons_zero, List.set_cons_succ]
                      rfl
                    refine two_ (i := 15) (j := 16) (Ni := some 42) (Nj := some 7) #[true, true, true, true, true, true, true, true, true, true, true, true, true, true, true, true, false, true, false, false] #[true, true, true, true, true, true, true, true, true, true, true, true, true, true, true, false, true, true, false, false] rfl rfl rfl rfl (by kernel_rfl) (by decide) (by decide) (fun K hK => ?_) (fun K hK => ?_)
                    · skip
                      refine goes_ Try.func6 (by kernel_rfl) rfl #[.slice Ai n ci, .int .i64 b0, .int .i64 b1, .int .u64 b2] (by rfl) rfl rfl (by simp only [List.map_toArray, List.map_cons, List.map_nil]; rfl) ?_
                      with_reducible refine (HCI.out _ HBW.out).mono ?_
                      rintro e wn ⟨Y3, y3, Y4, y4, rfl, hr, hb⟩
                      refine ⟨_, rfl, ?_⟩
                      have HBN := Aside0.mk (show Below wr.heap.size wr wn from below_step HBW.out hb)
                      have HAP := Aside0.mk (HE7.out.apart hr)
                      have HE7 := Aside0.mk (HE7.out.below hb)
                      have HX17 := Aside0.mk (blk_below HX17.out hb)
                      have HE15 := Aside0.mk (hr.lower (below_size HBW.out))
                      clear hr hb
                      refine hK.out _ _ ⟨pw_cell_below HBN.out u0, pw_cell_below HBN.out u1, pw_cell_below HBN.out u2⟩ (fun hHeld => ?_)
                      clear hK K
                      refine norm_ (a' := ?_) ?_ ?_
                      rotate_left
                      · show Act.put _ (some 42) _ = _
                        simp only [Act.put, List.setIfInBounds_toArray, List.set_cons_zero, List.set_cons_succ, i64_w, i32_w]
                        rfl
                      exact norm_ (by first | (simp only [putAll, Act.put, List.setIfInBounds_toArray, List.set_cons_zero, List.set_cons_succ]; done) | (simp only [putAll, Act.put, List.setIfInBounds_toArray, List.set_cons_zero, List.set_cons_succ]; rfl)) (hJ7_15_17 (X3, x3, X4, x4, Y3, y3, Y4, y4, g8) _ ⟨hHeld, HBN.out, HE7.out, HE15.out, HX17.out, HG17.out, HAP.out⟩)
                    · skip
                      refine box_step (by rfl) (N := 7) rfl (cs := zEw) (t := 31) (by first | (go_simp; done) | (go_simp; rfl)) ?_
                      intro g7 hgo wn hbox hb
                      have HBN := Aside0.mk (show Below wr.heap.size wr wn from below_step HBW.out hb)
                      have HNE := Aside0.mk (show g7 ≠ g8 by have h9 := blk_lt HX17.out; rw [hgo]; omega)
                      have HE7 := Aside0.mk (HE7.out.below hb)
                      have HX17 := Aside0.mk (blk_below HX17.out hb)
                      have HX16 := Aside0.mk hbox
                      have HG16 := Aside0.mk (show wr.heap.size ≤ g7 by rw [hgo]; exact below_size HBW.out)
                      clear hgo hbox hb
                      refine hK.out _ _ ⟨pw_cell_below HBN.out u0, pw_cell_below HBN.out u1, pw_cell_below HBN.out u2⟩ (fun hHeld => ?_)
                      clear hK K
                      refine norm_ (a' := ?_) ?_ ?_
                      rotate_left
                      · show Act.put _ (some 7) _ = _
                        simp only [Act.put, List.setIfInBounds_toArray, List.set_cons_zero, List.set_cons_succ, i64_w, i32_w]
                        rfl
                      exact norm_ (by first | (simp only [putAll, Act.put, List.setIfInBounds_toArray, List.set_cons_zero, List.set_cons_succ]; done) | (simp only [putAll, Act.put, List.setIfInBounds_toArray, List.set_cons_zero, List.set_cons_succ]; rfl)) (hJ7_16_17 (X3, x3, X4, x4, g7, g8) _ ⟨hHeld, HBN.out, HE7.out, HX16.out, HG16.out, HX17.out, HG17.out, HNE.out⟩)
                · skip
                  rintro ⟨X3, x3, X4, x4, g7⟩ wf ⟨hS_, h0_, h1_, h2_, h3_⟩
                  have HBW := Aside0.mk (show Below wr.heap.size wr wf from h0_)
                  have HE7 := Aside0.mk (show EdR wf wr.heap.size (.slice X3 0 x3) (.slice X4 rm x4) [] (whL 0 L) from h1_)
                  have HX16 := Aside0.mk (show wf.heap[g7]? = some (.cells zEw 31 (0, 0)) from h2_)
                  have HG16 := Aside0.mk (show wr.heap.size ≤ g7 from h3_)
                  clear h0_ h1_ h2_ h3_
                  have hHeld := hS_
                  refine norm_ (a' := ?_) ?_ ?_
                  rotate_left
                  · simp only [putAll, Act.put, List.setIfInBounds_toArray, List.set_cons_zero, List.set_cons_succ]
                    rfl
                  refine two_ (i := 15) (j := 17) (Ni := some 42) (Nj := some 8) #[true, true, true, true, true, true, true, true, true, true, true, true, true, true, true, true, true, false, false, false] #[true, true, true, true, true, true, true, true, true, true, true, true, true, true, true, false, true, true, false, false] rfl rfl rfl rfl (by kernel_rfl) (by decide) (by decide) (fun K hK => ?_) (fun K hK => ?_)
                  · skip
                    refine goes_ Try.func6 (by kernel_rfl) rfl #[.slice Ai n ci, .int .i64 b0, .int .i64 b1, .int .u64 b2] (by rfl) rfl rfl (by simp only [List.map_toArray, List.map_cons, List.map_nil]; rfl) ?_
                    with_reducible refine (HCI.out _ HBW.out).mono ?_
                    rintro e wn ⟨Y3, y3, Y4, y4, rfl, hr, hb⟩
                    refine ⟨_, rfl, ?_⟩
                    have HBN := Aside0.mk (show Below wr.heap.size wr wn from below_step HBW.out hb)
                    have HAP := Aside0.mk (HE7.out.apart hr)
                    have HE7 := Aside0.mk (HE7.out.below hb)
                    have HX16 := Aside0.mk (blk_below HX16.out hb)
                    have HE15 := Aside0.mk (hr.lower (below_size HBW.out))
                    clear hr hb
                    refine hK.out _ _ ⟨pw_cell_below HBN.out u0, pw_cell_below HBN.out u1, pw_cell_below HBN.out u2⟩ (fun hHeld => ?_)
                    clear hK K
                    refine norm_ (a' := ?_) ?_ ?_
                    rotate_left
                    · show Act.put _ (some 42) _ = _
                      simp only [Act.put, List.setIfInBounds_toArray, List.set_cons_zero, List.set_cons_succ, i64_w, i32_w]
                      rfl
                    exact norm_ (by first | (simp only [putAll, Act.put, List.setIfInBounds_toArray, List.set_cons_zero, List.set_cons_succ]; done) | (simp only [putAll, Act.put, List.setIfInBounds_toArray, List.set_cons_zero, List.set_cons_succ]; rfl)) (hJ7_15_16 (X3, x3, X4, x4, Y3, y3, Y4, y4, g7) _ ⟨hHeld, HBN.out, HE7.out, HE15.out, HX16.out, HG16.out, HAP.out⟩)
                  · skip
                    refine box_step (by rfl) (N := 8) rfl (cs := zEw) (t := 31) (by first | (go_simp; done) | (go_simp; rfl)) ?_
                    intro g8 hgo wn hbox hb
                    have HBN := Aside0.mk (show Below wr.heap.size wr wn from below_step HBW.out hb)
                    have HNE := Aside0.mk (show g7 ≠ g8 by have h9 := blk_lt HX16.out; rw [hgo]; omega)
                    have HE7 := Aside0.mk (HE7.out.below hb)
                    have HX16 := Aside0.mk (blk_below HX16.out hb)
                    have HX17 := Aside0.mk hbox
                    have HG17 := Aside0.mk (show wr.heap.size ≤ g8 by rw [hgo]; exact below_size HBW.out)
                    clear hgo hbox hb
                    refine hK.out _ _ ⟨pw_cell_below HBN.out u0, pw_cell_below HBN.out u1, pw_cell_below HBN.out u2⟩ (fun hHeld => ?_)
                    clear hK K
                    refine norm_ (a' := ?_) ?_ ?_
                    rotate_left
                    · show Act.put _ (some 8) _ = _
                      simp only [Act.put, List.setIfInBounds_toArray, List.set_cons_zero, List.set_cons_succ, i64_w, i32_w]
                      rfl
                    exact norm_ (by first | (simp only [putAll, Act.put, List.setIfInBounds_toArray, List.set_cons_zero, List.set_cons_succ]; done) | (simp only [putAll, Act.put, List.setIfInBounds_toArray, List.set_cons_zero, List.set_cons_succ]; rfl)) (hJ7_16_17 (X3, x3, X4, x4, g7, g8) _ ⟨hHeld, HBN.out, HE7.out, HX16.out, HG16.out, HX17.out, HG17.out, HNE.out⟩)
              · skip
                rintro ⟨X3, x3, X4, x4, Y3, y3, Y4, y4⟩ wf ⟨hS_, h0_, h1_, h2_, h3_⟩
                have HBW := Aside0.mk (show Below wr.heap.size wr wf from h0_)
                have HE7 := Aside0.mk (show EdR wf wr.heap.size (.slice X3 0 x3) (.slice X4 rm x4) [] (whL 0 L) from h1_)
                have HE15 := Aside0.mk (show EdR wf wr.heap.size (.slice Y3 0 y3) (.slice Y4 rm y4) [] (whL 0 L) from h2_)
                have HAP := Aside0.mk (show ApartV (.slice X3 0 x3) (.slice X4 rm x4) (.slice Y3 0 y3) (.slice Y4 rm y4) from h3_)
                clear h0_ h1_ h2_ h3_
                have hHeld := hS_
                refine norm_ (a' := ?_) ?_ ?_
                rotate_left
                · simp only [putAll, Act.put, List.setIfInBounds_toArray, List.set_cons_zero, List.set_cons_succ]
                  rfl
                refine two_ (i := 16) (j := 17) (Ni := some 7) (Nj := some 8) #[true, true, true, true, true, true, true, true, true, true, true, true, true, true, true, true, true, false, false, false] #[true, true, true, true, true, true, true, true, true, true, true, true, true, true, true, true, false, true, false, false] rfl rfl rfl rfl (by kernel_rfl) (by decide) (by decide) (fun K hK => ?_) (fun K hK => ?_)
                · skip
                  refine box_step (by rfl) (N := 7) rfl (cs := zEw) (t := 31) (by first | (go_simp; done) | (go_simp; rfl)) ?_
                  intro g7 hgo wn hbox hb
                  have HBN := Aside0.mk (show Below wr.heap.size wr wn from below_step HBW.out hb)
                  have HE7 := Aside0.mk (HE7.out.below hb)
                  have HE15 := Aside0.mk (HE15.out.below hb)
                  have HX16 := Aside0.mk hbox
                  have HG16 := Aside0.mk (show wr.heap.size ≤ g7 by rw [hgo]; exact below_size HBW.out)
                  clear hgo hbox hb
                  refine hK.out _ _ ⟨pw_cell_below HBN.out u0, pw_cell_below HBN.out u1, pw_cell_below HBN.out u2⟩ (fun hHeld => ?_)
                  clear hK K
                  refine norm_ (a' := ?_) ?_ ?_
                  rotate_left
                  · show Act.put _ (some 7) _ = _
                    simp only [Act.put, List.setIfInBounds_toArray, List.set_cons_zero, List.set_cons_succ, i64_w, i32_w]
                    rfl
                  exact norm_ (by first | (simp only [putAll, Act.put, List.setIfInBounds_toArray, List.set_cons_zero, List.set_cons_succ]; done) | (simp only [putAll, Act.put, List.setIfInBounds_toArray, List.set_cons_zero, List.set_cons_succ]; rfl)) (hJ7_15_16 (X3, x3, X4, x4, Y3, y3, Y4, y4, g7) _ ⟨hHeld, HBN.out, HE7.out, HE15.out, HX16.out, HG16.out, HAP.out⟩)
                · skip
                  refine box_step (by rfl) (N := 8) rfl (cs := zEw) (t := 31) (by first | (go_simp; done) | (go_simp; rfl)) ?_
                  intro g8 hgo wn hbox hb
                  have HBN := Aside0.mk (show Below wr.heap.size wr wn from below_step HBW.out hb)
                  have HE7 := Aside0.mk (HE7.out.below hb)
                  have HE15 := Aside0.mk (HE15.out.below hb)
                  have HX17 := Aside0.mk hbox
                  have HG17 := Aside0.mk (show wr.heap.size ≤ g8 by rw [hgo]; exact below_size HBW.out)
                  clear hgo hbox hb
                  refine hK.out _ _ ⟨pw_cell_below HBN.out u0, pw_cell_below HBN.out u1, pw_cell_below HBN.out u2⟩ (fun hHeld => ?_)
                  clear hK K
                  refine norm_ (a' := ?_) ?_ ?_
                  rotate_left
                  · show Act.put _ (some 8) _ = _
                    simp only [Act.put, List.setIfInBounds_toArray, List.set_cons_zero, List.set_cons_succ, i64_w, i32_w]
                    rfl
                  exact norm_ (by first | (simp only [putAll, Act.put, List.setIfInBounds_toArray, List.set_cons_zero, List.set_cons_succ]; done) | (simp only [putAll, Act.put, List.setIfInBounds_toArray, List.set_cons_zero, List.set_cons_succ]; rfl)) (hJ7_15_17 (X3, x3, X4, x4, Y3, y3, Y4, y4, g8) _ ⟨hHeld, HBN.out, HE7.out, HE15.out, HX17.out, HG17.out, HAP.out⟩)
            · skip
              rintro ⟨X3, x3, X4, x4, g7, g8⟩ wf ⟨hS_, h0_, h1_, h2_, h3_, h4_, h5_, h6_⟩
              have HBW := Aside0.mk (show Below wr.heap.size wr wf from h0_)
              have HE7 := Aside0.mk (show EdR wf wr.heap.size (.slice X3 0 x3) (.slice X4 rm x4) [] (whL 0 L) from h1_)
              have HX16 := Aside0.mk (show wf.heap[g7]? = some (.cells zEw 31 (0, 0)) from h2_)
              have HG16 := Aside0.mk (show wr.heap.size ≤ g7 from h3_)
              have HX17 := Aside0.mk (show wf.heap[g8]? = some (.cells zEw 31 (0, 0)) from h4_)
              have HG17 := Aside0.mk (show wr.heap.size ≤ g8 from h5_)
              have HNE := Aside0.mk (show g7 ≠ g8 from h6_)
              clear h0_ h1_ h2_ h3_ h4_ h5_ h6_
              have hHeld := hS_
              refine norm_ (a' := ?_) ?_ ?_
              rotate_left
              · simp only [putAll, Act.put, List.setIfInBounds_toArray, List.set_cons_zero, List.set_cons_succ]
                rfl
              refine one_ (i := 15) (N := some 42) #[true, true, true, true, true, true, true, true, true, true, true, true, true, true, true, true, true, true, false, false] rfl rfl (by kernel_rfl) (by decide) (fun K hK => ?_)
              refine goes_ Try.func6 (by kernel_rfl) rfl #[.slice Ai n ci, .int .i64 b0, .int .i64 b1, .int .u64 b2] (by rfl) rfl rfl (by simp only [List.map_toArray, List.map_cons, List.map_nil]; rfl) ?_
              with_reducible refine (HCI.out _ HBW.out).mono ?_
              rintro e wn ⟨Y3, y3, Y4, y4, rfl, hr, hb⟩
              refine ⟨_, rfl, ?_⟩
              have HBN := Aside0.mk (show Below wr.heap.size wr wn from below_step HBW.out hb)
              have HAP := Aside0.mk (HE7.out.apart hr)
              have HE7 := Aside0.mk (HE7.out.below hb)
              have HX16 := Aside0.mk (blk_below HX16.out hb)
              have HX17 := Aside0.mk (blk_below HX17.out hb)
              have HE15 := Aside0.mk (hr.lower (below_size HBW.out))
              clear hr hb
              refine hK.out _ _ ⟨pw_cell_below HBN.out u0, pw_cell_below HBN.out u1, pw_cell_below HBN.out u2⟩ (fun hHeld => ?_)
              clear hK K
              refine norm_ (a' := ?_) ?_ ?_
              rotate_left
              · show Act.put _ (some 42) _ = _
                simp only [Act.put, List.setIfInBounds_toArray, List.set_cons_zero, List.set_cons_succ, i64_w, i32_w]
                rfl
              exact norm_ (by first | (simp only [putAll, Act.put, List.setIfInBounds_toArray, List.set_cons_zero, List.set_cons_succ]; done) | (simp only [putAll, Act.put, List.setIfInBounds_toArray, List.set_cons_zero, List.set_cons_succ]; rfl)) (hJ7_15_16_17 (X3, x3, X4, x4, Y3, y3, Y4, y4, g7, g8) _ ⟨hHeld, HBN.out, HE7.out, HE15.out, HX16.out, HG16.out, HX17.out, HG17.out, HNE.out, HAP.out⟩)
          · skip
            rintro ⟨X3, x3, X4, x4, Y3, y3, Y4, y4, g8⟩ wf ⟨hS_, h0_, h1_, h2_, h3_, h4_, h5_⟩
            have HBW := Aside0.mk (show Below wr.heap.size wr wf from h0_)
            have HE7 := Aside0.mk (show EdR wf wr.heap.size (.slice X3 0 x3) (.slice X4 rm x4) [] (whL 0 L) from h1_)
            have HE15 := Aside0.mk (show EdR wf wr.heap.size (.slice Y3 0 y3) (.slice Y4 rm y4) [] (whL 0 L) from h2_)
            have HX17 := Aside0.mk (show wf.heap[g8]? = some (.cells zEw 31 (0, 0)) from h3_)
            have HG17 := Aside0.mk (show wr.heap.size ≤ g8 from h4_)
            have HAP := Aside0.mk (show ApartV (.slice X3 0 x3) (.slice X4 rm x4) (.slice Y3 0 y3) (.slice Y4 rm y4) from h5_)
            clear h0_ h1_ h2_ h3_ h4_ h5_
            have hHeld := hS_
            refine norm_ (a' := ?_) ?_ ?_
            rotate_left
            · simp only [putAll, Act.put, List.setIfInBounds_toArray, List.set_cons_zero, List.set_cons_succ]
              rfl
            refine one_ (i := 16) (N := some 7) #[true, true, true, true, true, true, true, true, true, true, true, true, true, true, true, true, true, true, false, false] rfl rfl (by kernel_rfl) (by decide) (fun K hK => ?_)
            refine box_step (by rfl) (N := 7) rfl (cs := zEw) (t := 31) (by first | (go_simp; done) | (go_simp; rfl)) ?_
            intro g7 hgo wn hbox hb
            have HBN := Aside0.mk (show Below wr.heap.size wr wn from below_step HBW.out hb)
            have HNE := Aside0.mk (show g7 ≠ g8 by have h9 := blk_lt HX17.out; rw [hgo]; omega)
            have HE7 := Aside0.mk (HE7.out.below hb)
            have HE15 := Aside0.mk (HE15.out.below hb)
            have HX17 := Aside0.mk (blk_below HX17.out hb)
            have HX16 := Aside0.mk hbox
            have HG16 := Aside0.mk (show wr.heap.size ≤ g7 by rw [hgo]; exact below_size HBW.out)
            clear hgo hbox hb
            refine hK.out _ _ ⟨pw_cell_below HBN.out u0, pw_cell_below HBN.out u1, pw_cell_below HBN.out u2⟩ (fun hHeld => ?_)
            clear hK K
            refine norm_ (a' := ?_) ?_ ?_
            rotate_left
            · show Act.put _ (some 7) _ = _
              simp only [Act.put, List.setIfInBounds_toArray, List.set_cons_zero, List.set_cons_succ, i64_w, i32_w]
              rfl
            exact norm_ (by first | (simp only [putAll, Act.put, List.setIfInBounds_toArray, List.set_cons_zero, List.set_cons_succ]; done) | (simp only [putAll, Act.put, List.setIfInBounds_toArray, List.set_cons_zero, List.set_cons_succ]; rfl)) (hJ7_15_16_17 (X3, x3, X4, x4, Y3, y3, Y4, y4, g7, g8) _ ⟨hHeld, HBN.out, HE7.out, HE15.out, HX16.out, HG16.out, HX17.out, HG17.out, HNE.out, HAP.out⟩)
        · skip
          rintro ⟨X3, x3, X4, x4, Y3, y3, Y4, y4, g7⟩ wf ⟨hS_, h0_, h1_, h2_, h3_, h4_, h5_⟩
          have HBW := Aside0.mk (show Below wr.heap.size wr wf from h0_)
          have HE7 := Aside0.mk (show EdR wf wr.heap.size (.slice X3 0 x3) (.slice X4 rm x4) [] (whL 0 L) from h1_)
          have HE15 := Aside0.mk (show EdR wf wr.heap.size (.slice Y3 0 y3) (.slice Y4 rm y4) [] (whL 0 L) from h2_)
          have HX16 := Aside0.mk (show wf.heap[g7]? = some (.cells zEw 31 (0, 0)) from h3_)
          have HG16 := Aside0.mk (show wr.heap.size ≤ g7 from h4_)
          have HAP := Aside0.mk (show ApartV (.slice X3 0 x3) (.slice X4 rm x4) (.slice Y3 0 y3) (.slice Y4 rm y4) from h5_)
          clear h0_ h1_ h2_ h3_ h4_ h5_
          have hHeld := hS_
          refine norm_ (a' := ?_) ?_ ?_
          rotate_left
          · simp only [putAll, Act.put, List.setIfInBounds_toArray, List.set_cons_zero, List.set_cons_succ]
            rfl
          refine one_ (i := 17) (N := some 8) #[true, true, true, true, true, true, true, true, true, true, true, true, true, true, true, true, true, true, false, false] rfl rfl (by kernel_rfl) (by decide) (fun K hK => ?_)
          refine box_step (by rfl) (N := 8) rfl (cs := zEw) (t := 31) (by first | (go_simp; done) | (go_simp; rfl)) ?_
          intro g8 hgo wn hbox hb
          have HBN := Aside0.mk (show Below wr.heap.size wr wn from below_step HBW.out hb)
          have HNE := Aside0.mk (show g7 ≠ g8 by have h9 := blk_lt HX16.out; rw [hgo]; omega)
          have HE7 := Aside0.mk (HE7.out.below hb)
          have HE15 := Aside0.mk (HE15.out.below hb)
          have HX16 := Aside0.mk (blk_below HX16.out hb)
          have HX17 := Aside0.mk hbox
          have HG17 := Aside0.mk (show wr.heap.size ≤ g8 by rw [hgo]; exact below_size HBW.out)
          clear hgo hbox hb
          refine hK.out _ _ ⟨pw_cell_below HBN.out u0, pw_cell_below HBN.out u1, pw_cell_below HBN.out u2⟩ (fun hHeld => ?_)
          clear hK K
          refine norm_ (a' := ?_) ?_ ?_
          rotate_left
          · show Act.put _ (some 8) _ = _
            simp only [Act.put, List.setIfInBounds_toArray, List.set_cons_zero, List.set_cons_succ, i64_w, i32_w]
            rfl
          exact norm_ (by first | (simp only [putAll, Act.put, List.setIfInBounds_toArray, List.set_cons_zero, List.set_cons_succ]; done) | (simp only [putAll, Act.put, List.setIfInBounds_toArray, List.set_cons_zero, List.set_cons_succ]; rfl)) (hJ7_15_16_17 (X3, x3, X4, x4, Y3, y3, Y4, y4, g7, g8) _ ⟨hHeld, HBN.out, HE7.out, HE15.out, HX16.out, HG16.out, HX17.out, HG17.out, HNE.out, HAP.out⟩)
      rintro ⟨X3, x3, X4, x4, Y3, y3, Y4, y4, g7, g8⟩ wf ⟨hS_, h0_, h1_, h2_, h3_, h4_, h5_, h6_, h7_, h8_⟩
      have HBW := Aside0.mk (show Below wr.heap.size wr wf from h0_)
      have HE7 := Aside0.mk (show EdR wf wr.heap.size (.slice X3 0 x3) (.slice X4 rm x4) [] (whL 0 L) from h1_)
      have HE15 := Aside0.mk (show EdR wf wr.heap.size (.slice Y3 0 y3) (.slice Y4 rm y4) [] (whL 0 L) from h2_)
      have HX16 := Aside0.mk (show wf.heap[g7]? = some (.cells zEw 31 (0, 0)) from h3_)
      have HG16 := Aside0.mk (show wr.heap.size ≤ g7 from h4_)
      have HX17 := Aside0.mk (show wf.heap[g8]? = some (.cells zEw 31 (0, 0)) from h5_)
      have HG17 := Aside0.mk (show wr.heap.size ≤ g8 from h6_)
      have HNE := Aside0.mk (show g7 ≠ g8 from h7_)
      have HAP := Aside0.mk (show ApartV (.slice X3 0 x3) (.slice X4 rm x4) (.slice Y3 0 y3) (.slice Y4 rm y4) from h8_)
      clear h0_ h1_ h2_ h3_ h4_ h5_ h6_ h7_ h8_
      have o16_0 : wf.cell? ⟨g7, 0, none⟩ = some (.int .i64 0) := (blk_cell HX16.out 0).trans rfl
      have o16_1 : wf.cell? ⟨g7, 1, none⟩ = some (.int .i64 0) := (blk_cell HX16.out 1).trans rfl
      have o16_2 : wf.cell? ⟨g7, 2, none⟩ = some (.int .u64 0) := (blk_cell HX16.out 2).trans rfl
      have o16_3 : wf.cell? ⟨g7, 3, none⟩ = some (.slice none 0 0) := (blk_cell HX16.out 3).trans rfl
      have o16_4 : wf.cell? ⟨g7, 4, none⟩ = some (.slice none 0 0) := (blk_cell HX16.out 4).trans rfl
      have q16_0 := blk_frozen HX16.out 0
      have q16_1 := blk_frozen HX16.out 1
      have q16_2 := blk_frozen HX16.out 2
      have q16_3 := blk_frozen HX16.out 3
      have q16_4 := blk_frozen HX16.out 4
      have o17_0 : wf.cell? ⟨g8, 0, none⟩ = some (.int .i64 0) := (blk_cell HX17.out 0).trans rfl
      have o17_1 : wf.cell? ⟨g8, 1, none⟩ = some (.int .i64 0) := (blk_cell HX17.out 1).trans rfl
      have o17_2 : wf.cell? ⟨g8, 2, none⟩ = some (.int .u64 0) := (blk_cell HX17.out 2).trans rfl
      have o17_3 : wf.cell? ⟨g8, 3, none⟩ = some (.slice none 0 0) := (blk_cell HX17.out 3).trans rfl
      have o17_4 : wf.cell? ⟨g8, 4, none⟩ = some (.slice none 0 0) := (blk_cell HX17.out 4).trans rfl
      have q17_0 := blk_frozen HX17.out 0
      have q17_1 := blk_frozen HX17.out 1
      have q17_2 := blk_frozen HX17.out 2
      have q17_3 := blk_frozen HX17.out 3
      have q17_4 := blk_frozen HX17.out 4
      have eHNE := HNE.out
      have fHNE := Ne.symm HNE.out
      have hHeld := hS_
      refine norm_ (a' := ?_) ?_ ?_
      rotate_left
      · simp only [putAll, Act.put, List.setIfInBounds_toArray, List.set_cons_zero, List.set_cons_succ]
        rfl
      refine last_ (i := 18) (N := none) #[true, true, true, true, true, true, true, true, true, true, true, true, true, true, true, true, true, true, true, false] rfl rfl (by kernel_rfl) (by decide) (fun K hK => ?_)
      refine skip_ (w1 := ?_) (by rfl) rfl ?_ ?_
      rotate_left
      · go_simp
        rfl
      refine hK.out _ _ ?_
      clear hK K
      refine last_ (i := 19) (N := none) #[true, true, true, true, true, true, true, true, true, true, true, true, true, true, true, true, true, true, true, true] rfl rfl (by kernel_rfl) (by decide) (fun K hK => ?_)
      refine skip_ (w1 := ?_) (by rfl) rfl ?_ ?_
      rotate_left
      · go_simp
        rfl
      refine hK.out _ _ ?_
      clear hK K
      refine done_ (by kernel_rfl) ?_
      clear u0 u1 u2 eHNE fHNE hHeld hS_ o16_0 o16_1 o16_2 o16_3 o16_4 o17_0 o17_1 o17_2 o17_3 o17_4 q16_0 q16_1 q16_2 q16_3 q16_4 q17_0 q17_1 q17_2 q17_3 q17_4
      have HT := Aside0.mk (told_far HX17.out (Ne.symm HNE.out) b0 b1 b2 (.slice X3 0 x3) (.slice X4 rm x4))
      have KM := Aside0.mk (told_far (toldW_blk (x0 := b0) (x1 := b1) (x2 := b2) (vG := .slice X3 0 x3) (vC := .slice X4 rm x4) HX16.out) HNE.out b0 b1 b2 (.slice Y3 0 y3) (.slice Y4 rm y4))
      have KN := Aside0.mk (toldW_blk (x0 := b0) (x1 := b1) (x2 := b2) (vG := .slice Y3 0 y3) (vC := .slice Y4 rm y4) HT.out)
      have EM := Aside0.mk ((HE7.out.told HX16.out b0 b1 b2 (.slice X3 0 x3) (.slice X4 rm x4)).told HT.out b0 b1 b2 (.slice Y3 0 y3) (.slice Y4 rm y4))
      have EN := Aside0.mk ((HE15.out.told HX16.out b0 b1 b2 (.slice X3 0 x3) (.slice X4 rm x4)).told HT.out b0 b1 b2 (.slice Y3 0 y3) (.slice Y4 rm y4))
      have HBz := Aside0.mk (told_below (told_below HBW.out HG16.out b0 b1 b2 (.slice X3 0 x3) (.slice X4 rm x4)) HG17.out b0 b1 b2 (.slice Y3 0 y3) (.slice Y4 rm y4))
      obtain ⟨W2, hW2⟩ : ∃ W2, toldW (toldW wf g7 b0 b1 b2 (.slice X3 0 x3) (.slice X4 rm x4)) g8 b0 b1 b2 (.slice Y3 0 y3) (.slice Y4 rm y4) = W2 := ⟨_, rfl⟩
      rw [hW2] at KM KN EM EN HBz
      unfold toldW at hW2
      rw [hW2]
      clear hW2 HT HE7 HE15 HX16 HX17 HG16 HG17 HNE HBW HCI
      have K3b := Aside0.mk (blk_below K3.out HBz.out)
      have u0 := blk_cell K3b.out 0
      have u1 := blk_cell K3b.out 1
      have u2 := blk_cell K3b.out 2
      go_wp2_with fail
      (with_reducible refine (HRF.out _ (below_step HB.out HBz.out)).mono ?_)
      rintro e w5 ⟨R3, r3, R4, r4, rfl, hr, hb⟩
      have HMW := Aside0.mk (EM.out.apart hr)
      have EW := Aside0.mk (hr.lower HBz.out.size)
      have KM := Aside0.mk (blk_below KM.out hb)
      have KN := Aside0.mk (blk_below KN.out hb)
      have EM := Aside0.mk (EM.out.below hb)
      have EN := Aside0.mk (EN.out.below hb)
      have HBz := Aside0.mk (below_step HBz.out hb)
      clear hr hb u0 u1 u2 K3b HRF
      have lM := blk_lt KM.out
      have KMz := Aside0.mk (blk_below KM.out (below_alloc (Below.refl _ _) (.cells zEw 31)))
      have KMw := Aside0.mk (blk_below KM.out (below_alloc (Below.refl _ _) (.cells (cE b0 b1 b2 (.slice R3 0 r3) (.slice R4 rm r4)) 31)))
      have KZ := Aside0.mk (blk_new w5 (.cells zEw 31))
      have n0 : g7 ≠ w5.heap.size := by omega
      have n1 : w5.heap.size ≠ g7 := by omega
      have o0 := blk_cell KZ.out 0
      have q0 := blk_frozen KZ.out 0
      have o1 := blk_cell KZ.out 1
      have q1 := blk_frozen KZ.out 1
      have o2 := blk_cell KZ.out 2
      have q2 := blk_frozen KZ.out 2
      have o3 := blk_cell KZ.out 3
      have q3 := blk_frozen KZ.out 3
      have o4 := blk_cell KZ.out 4
      have q4 := blk_frozen KZ.out 4
      have cM0 := blk_cell KM.out 0
      have dM0 := blk_cell KMz.out 0
      have eM0 := blk_cell KMw.out 0
      have cM1 := blk_cell KM.out 1
      have dM1 := blk_cell KMz.out 1
      have eM1 := blk_cell KMw.out 1
      have cM2 := blk_cell KM.out 2
      have dM2 := blk_cell KMz.out 2
      have eM2 := blk_cell KMw.out 2
      have cM3 := blk_cell KM.out 3
      have dM3 := blk_cell KMz.out 3
      have eM3 := blk_cell KMw.out 3
      have cM4 := blk_cell KM.out 4
      have dM4 := blk_cell KMz.out 4
      have eM4 := blk_cell KMw.out 4
      go_wp2_with fail
      clear n0 n1 lM o0 q0 cM0 dM0 eM0 o1 q1 cM1 dM1 eM1 o2 q2 cM2 dM2 eM2 o3 q3 cM3 dM3 eM3 o4 q4 cM4 dM4 eM4 KMz KMw KZ
      have KM := Aside0.mk (blk_below KM.out (below_alloc (Below.refl _ _) (.cells (cE b0 b1 b2 (.slice R3 0 r3) (.slice R4 rm r4)) 31)))
      have KN := Aside0.mk (blk_below KN.out (below_alloc (Below.refl _ _) (.cells (cE b0 b1 b2 (.slice R3 0 r3) (.slice R4 rm r4)) 31)))
      have EM := Aside0.mk (EM.out.below (below_alloc (Below.refl _ _) (.cells (cE b0 b1 b2 (.slice R3 0 r3) (.slice R4 rm r4)) 31)))
      have EN := Aside0.mk (EN.out.below (below_alloc (Below.refl _ _) (.cells (cE b0 b1 b2 (.slice R3 0 r3) (.slice R4 rm r4)) 31)))
      have EW := Aside0.mk (EW.out.below (below_alloc (Below.refl _ _) (.cells (cE b0 b1 b2 (.slice R3 0 r3) (.slice R4 rm r4)) 31)))
      have KW := Aside0.mk (blk_new w5 (.cells (cE b0 b1 b2 (.slice R3 0 r3) (.slice R4 rm r4)) 31))
      have HBz := Aside0.mk (below_alloc HBz.out (.cells (cE b0 b1 b2 (.slice R3 0 r3) (.slice R4 rm r4)) 31))
      generalize w5.alloc (.cells (cE b0 b1 b2 (.slice R3 0 r3) (.slice R4 rm r4)) 31) = w6 at KM KN KW EM EN EW HBz ⊢
      generalize w5.heap.size = g9 at KW ⊢
      have HRL2 := Aside0.mk (show rm ≤ 8000000 by have := HRL.out; omega)
      (with_reducible refine (same15 b0 b1 b2 X3 x3 [] X4 x4 (whL 0 L) R3 r3 R4 r4 0 rm rfl HRM.out (by omega) HRL2.out _ EM.out.c3.1 EM.out.c3.2 EM.out.c4.1 EM.out.c4.2 EW.out.c3.1 EW.out.c3.2 EW.out.c4.1 EW.out.c4.2).mono ?_)
      rintro e w7 ⟨rfl, hb⟩
      have KM := Aside0.mk (blk_below KM.out hb)
      have KN := Aside0.mk (blk_below KN.out hb)
      have KW := Aside0.mk (blk_below KW.out hb)
      have EM := Aside0.mk (EM.out.below hb)
      have EN := Aside0.mk (EN.out.below hb)
      have EW := Aside0.mk (EW.out.below hb)
      have HBz := Aside0.mk (below_step HBz.out hb)
      clear hb
      have cM0 := blk_cell KM.out 0
      have cM1 := blk_cell KM.out 1
      have cM2 := blk_cell KM.out 2
      have cM3 := blk_cell KM.out 3
      have cM4 := blk_cell KM.out 4
      go_wp2_with fail
      (with_reducible refine (spoil15 b0 b1 b2 [] (whL 0 L) (.slice X3 0 x3) (.slice X4 rm x4) (Nat.zero_le _) (by rw [HRM.out]; exact HRL2.out) wr w7 HBz.out EM.out).mono ?_)
      rintro e w8 ⟨rfl, hb, hk⟩
      have KN := Aside0.mk (EM.out.box KN.out hk)
      have KW := Aside0.mk (EM.out.box KW.out hk)
      have EN := Aside0.mk (EN.out.kept hk HAP.out.symm)
      have EW := Aside0.mk (EW.out.kept hk HMW.out.symm)
      have HBz := Aside0.mk hb
      clear hb hk cM0 cM1 cM2 cM3 cM4 KM EM HAP HMW
      go_wp2_with fail
      have HCin := Aside0.mk (show Kd.C (Kd.slice 36 k36) wr Ai n L by have h := (Kd.R_reads' HI.out).2.2; rw [HN.out] at h; exact h)
      obtain ⟨WI, rfl⟩ : ∃ X, X = wr := ⟨_, rfl⟩
      go_loopg [10] (1 + n) (fun kq v10 wq => ∃ (i : Nat), v10 = .int .i64 (i : Int) ∧ i ≤ n ∧ n - i < kq ∧ Aside0 (Below w8.heap.size w8 wq))
      case atStart => exact ⟨0, rfl, Nat.zero_le _, by omega, ⟨Below.refl _ _⟩⟩
      case round =>
        obtain ⟨i, rfl, hin2, hkq, HQ⟩ := hrel
        cases gk with
        | zero => omega
        | succ gk2 =>
        by_cases hi2 : i < n
        · have b2' : decide ((i : Int) < (n : Int)) = true := decide_eq_true (by omega)
          have b2n : decide (i < n) = true := decide_eq_true hi2
          have hio : i < L.length := by rw [HN.out]; exact hi2
          obtain ⟨ad, B, cB, hA, f0, hlB, rB⟩ := at_Lv HR.out.1 i hio
          subst hA
          obtain ⟨ad2, B2, cB2, hA2, f1, hlB2, rB2⟩ := at_Lv HCin.out i hio
          subst hA2
          have hfb : L[i].length ≤ 1048576 := Nat.le_trans (sum_le hio) HS.out
          obtain ⟨fs, hfs⟩ : ∃ fs, L[i] = fs := ⟨_, rfl⟩
          rw [hfs] at f0 f1 hlB hlB2 rB rB2 hfb
          obtain ⟨m, hm⟩ : ∃ m, fs.length = m := ⟨_, rfl⟩
          rw [hm] at f0 f1 hlB hlB2 rB rB2 hfb
          have HM := Aside0.mk hm
          have RB := Aside0.mk rB
          have RB2 := Aside0.mk rB2
          have HF0 := Aside0.mk f0
          have HF1 := Aside0.mk f1
          clear hio hfs hm f0 f1 rB rB2
          go_wp2_with fail
          go_loopg [11] (1 + m) (fun kq v11 wq => ∃ (k : Nat), v11 = .int .i64 (k : Int) ∧ k ≤ m ∧ m - k < kq ∧ Aside0 (Below w8.heap.size w8 wq))
          case atStart => exact ⟨0, rfl, Nat.zero_le _, by omega, HQ⟩
          case round =>
            clear HQ
            obtain ⟨k, rfl, hkm, hkk, HQ⟩ := hrel
            cases gk with
            | zero => omega
            | succ gk3 =>
            have h0 := ((below_step (below_step HB.out HBz.out) HQ.out).cell (World.block_lt_of_cell? w _ HF0.out)).trans HF0.out
            have h1 := ((below_step HBz.out HQ.out).cell (World.block_lt_of_cell? WI _ HF1.out)).trans HF1.out
            by_cases hk : k < m
            · have b3' : decide ((k : Int) < (m : Int)) = true := decide_eq_true (by omega)
              have b3n : decide (k < m) = true := decide_eq_true hk
              have hko : k < fs.length := by rw [HM.out]; exact hk
              obtain ⟨ad3, hA3, e0, e1, e2, e3, e4, e5⟩ := at_T36 RB.out (k : Int) (by omega) (by omega)
              subst hA3
              obtain ⟨ad4, hA4, d0, d1, d2, d3, d4, d5⟩ := at_T36 RB2.out (k : Int) (by omega) (by omega)
              subst hA4
              rw [rd36_at hko, Int.toNat_natCast] at e0 e1 e2 e3 e4 e5 d0 d1 d2 d3 d4 d5
              generalize fs[k] = x at e0 e1 e2 e3 e4 e5 d0 d1 d2 d3 d4 d5
              obtain ⟨x0, x1, x2, x3', x4', x5⟩ := x
              simp only [] at e0 e1 e2 e3 e4 e5 d0 d1 d2 d3 d4 d5
              have hb1 := below_step (below_step HB.out HBz.out) HQ.out
              have hb2 := below_step HBz.out HQ.out
              have g0 := (hb1.cell (World.block_lt_of_cell? w _ e0)).trans e0
              have g1 := (hb1.cell (World.block_lt_of_cell? w _ e1)).trans e1
              have g2 := (hb1.cell (World.block_lt_of_cell? w _ e2)).trans e2
              have g3 := (hb1.cell (World.block_lt_of_cell? w _ e3)).trans e3
              have g4 := (hb1.cell (World.block_lt_of_cell? w _ e4)).trans e4
              have g5 := (hb1.cell (World.block_lt_of_cell? w _ e5)).trans e5
              have i0 := (hb2.cell (World.block_lt_of_cell? WI _ d0)).trans d0
              have i1 := (hb2.cell (World.block_lt_of_cell? WI _ d1)).trans d1
              have i2 := (hb2.cell (World.block_lt_of_cell? WI _ d2)).trans d2
              have i3 := (hb2.cell (World.block_lt_of_cell? WI _ d3)).trans d3
              have i4 := (hb2.cell (World.block_lt_of_cell? WI _ d4)).trans d4
              have i5 := (hb2.cell (World.block_lt_of_cell? WI _ d5)).trans d5
              clear hko e0 e1 e2 e3 e4 e5 d0 d1 d2 d3 d4 d5 hb1 hb2
              go_wp2_with fail
              refine start_ (n := 15) (S := fun w' => w'.cell? (ad.add i) = some (.slice (some ad3) m cB) ∧ w'.cell? (ad2.add i) = some (.slice (some ad4) m cB2) ∧ w'.cell? (ad3.add (k * 6)) = some (.int .i64 x0) ∧ w'.cell? ⟨(ad3.add (k * 6)).block, (ad3.add (k * 6)).off + 1, none⟩ = some (.int .i64 x1) ∧ w'.cell? ⟨(ad3.add (k * 6)).block, (ad3.add (k * 6)).off + 2, none⟩ = some (.string x2) ∧ w'.cell? ⟨(ad3.add (k * 6)).block, (ad3.add (k * 6)).off + 3, none⟩ = some (.string x3') ∧ w'.cell? ⟨(ad3.add (k * 6)).block, (ad3.add (k * 6)).off + 4, none⟩ = some (.int .u64 x4') ∧ w'.cell? ⟨(ad3.add (k * 6)).block, (ad3.add (k * 6)).off + 5, none⟩ = some (.int .u64 x5) ∧ w'.cell? (ad4.add (k * 6)) = some (.int .i64 x0) ∧ w'.cell? ⟨(ad4.add (k * 6)).block, (ad4.add (k * 6)).off + 1, none⟩ = some (.int .i64 x1) ∧ w'.cell? ⟨(ad4.add (k * 6)).block, (ad4.add (k * 6)).off + 2, none⟩ = some (.string x2) ∧ w'.cell? ⟨(ad4.add (k * 6)).block, (ad4.add (k * 6)).off + 3, none⟩ = some (.string x3') ∧ w'.cell? ⟨(ad4.add (k * 6)).block, (ad4.add (k * 6)).off + 4, none⟩ = some (.int .u64 x4') ∧ w'.cell? ⟨(ad4.add (k * 6)).block, (ad4.add (k * 6)).off + 5, none⟩ = some (.int .u64 x5)) (ds := []) #[false, false, false, false, false, false, false, false, false, false, false, false, false, false, false] (by kernel_rfl) rfl rfl ⟨h0, h1, g0, g1, g2, g3, g4, g5, i0, i1, i2, i3, i4, i5⟩ (fun hHeld => ?_)
              refine pure_ (i := 0) (N := some 72) (v := ?_) (a' := ?_) #[true, false, false, false, false, false, false, false, false, false, false, false, false, false, false] rfl rfl (by kernel_rfl) (fun _ _ _ h => h) (Or.inl ⟨by rfl, ?_⟩) ?_ ?_
              rotate_left
              · intro w'
                go_simp
                with_reducible rfl
              rotate_left
              · simp only [Act.put, List.setIfInBounds_toArray, List.set_cons_zero, List.set_cons_succ, i64_w, i32_w]
                rfl
              refine pure_ (i := 1) (N := some 73) (v := ?_) (a' := ?_) #[true, true, false, false, false, false, false, false, false, false, false, false, false, false, false] rfl rfl (by kernel_rfl) (fun _ _ _ h => h) (Or.inl ⟨by rfl, ?_⟩) ?_ ?_
              rotate_left
              · intro w'
                go_simp
                with_reducible rfl
              rotate_left
              · simp only [Act.put, List.setIfInBounds_toArray, List.set_cons_zero, List.set_cons_succ, i64_w, i32_w]
                rfl
              refine pure_ (i := 2) (N := some 74) (v := ?_) (a' := ?_) #[true, true, true, false, false, false, false, false, false, false, false, false, false, false, false] rfl rfl (by kernel_rfl) (fun _ _ _ h => h) (Or.inl ⟨by rfl, ?_⟩) ?_ ?_
              rotate_left
              · intro w'
                go_simp
                with_reducible rfl
              rotate_left
              · simp only [Act.put, List.setIfInBounds_toArray, List.set_cons_zero, List.set_cons_succ, i64_w, i32_w]
                rfl
              refine pure_ (i := 4) (N := some 76) (v := ?_) (a' := ?_) #[true, true, true, false, true, false, false, false, false, false, false, false, false, false, false] rfl rfl (by kernel_rfl) (fun _ _ _ h => h) (Or.inl ⟨by rfl, ?_⟩) ?_ ?_
              rotate_left
              · intro w'
                go_simp
                with_reducible rfl
              rotate_left
              · simp only [Act.put, List.setIfInBounds_toArray, List.set_cons_zero, List.set_cons_succ, i64_w, i32_w]
                rfl
              refine pure_ (i := 7) (N := some 79) (v := ?_) (a' := ?_) #[true, true, true, false, true, false, false, true, false, false, false, false, false, false, false] rfl rfl (by kernel_rfl) (fun _ _ _ h => h) (Or.inl ⟨by rfl, ?_⟩) ?_ ?_
              rotate_left
              · intro w'
                go_simp
                with_reducible rfl
              rotate_left
              · simp only [Act.put, List.setIfInBounds_toArray, List.set_cons_zero, List.set_cons_succ, i64_w, i32_w]
                rfl
              refine pure_ (i := 8) (N := some 80) (v := ?_) (a' := ?_) #[true, true, true, false, true, false, false, true, true, false, false, false, false, false, false] rfl rfl (by kernel_rfl) (fun _ _ _ h => h) (Or.inl ⟨by rfl, ?_⟩) ?_ ?_
              rotate_left
              · intro w'
                go_simp
                with_reducible rfl
              rotate_left
              · simp only [Act.put, List.setIfInBounds_toArray, List.set_cons_zero, List.set_cons_succ, i64_w, i32_w]
                rfl
              refine pure_ (i := 9) (N := some 81) (v := ?_) (a' := ?_) #[true, true, true, false, true, false, false, true, true, true, false, false, false, false, false] rfl rfl (by kernel_rfl) (fun _ _ _ h => h) (Or.inl ⟨by rfl, ?_⟩) ?_ ?_
              rotate_left
              · intro w'
                go_simp
                with_reducible rfl
              rotate_left
              · simp only [Act.put, List.setIfInBounds_toArray, List.set_cons_zero, List.set_cons_succ, i64_w, i32_w]
                rfl
              refine pure_ (i := 11) (N := some 83) (v := ?_) (a' := ?_) #[true, true, true, false, true, false, false, true, true, true, false, true, false, false, false] rfl rfl (by kernel_rfl) (fun _ _ _ h => h) (Or.inl ⟨by rfl, ?_⟩) ?_ ?_
              rotate_left
              · intro w'
                go_simp
                with_reducible rfl
              rotate_left
              · simp only [Act.put, List.setIfInBounds_toArray, List.set_cons_zero, List.set_cons_succ, i64_w, i32_w]
                rfl
              refine take_ (i := 3) (N := some 75) (v := ?_) (a' := ?_) #[true, true, true, true, true, false, false, true, true, true, false, true, false, false, false] rfl rfl (by kernel_rfl) (fun _ _ _ h => h) (Or.inl ⟨by rfl, ?_⟩) hHeld ?_ ?_
              rotate_left
              · rintro w' ⟨s0, s1, s2, s3, s4, s5, s6, s7, s8, s9, s10, s11, s12, s13⟩
                go_simp
                with_reducible rfl
              rotate_left
              · simp only [Act.put, List.setIfInBounds_toArray, List.set_cons_zero, List.set_cons_succ, i64_w, i32_w]
                rfl
              refine pure_ (i := 5) (N := some 77) (v := ?_) (a' := ?_) #[true, true, true, true, true, true, false, true, true, true, false, true, false, false, false] rfl rfl (by kernel_rfl) (fun _ _ _ h => h) (Or.inl ⟨by rfl, ?_⟩) ?_ ?_
              rotate_left
              · intro w'
                go_simp
                with_reducible rfl
              rotate_left
              · simp only [Act.put, List.setIfInBounds_toArray, List.set_cons_zero, List.set_cons_succ, i64_w, i32_w]
                rfl
              refine take_ (i := 6) (N := some 78) (v := ?_) (a' := ?_) #[true, true, true, true, true, true, true, true, true, true, false, true, false, false, false] rfl rfl (by kernel_rfl) (fun _ _ _ h => h) (Or.inl ⟨by rfl, ?_⟩) hHeld ?_ ?_
              rotate_left
              · rintro w' ⟨s0, s1, s2, s3, s4, s5, s6, s7, s8, s9, s10, s11, s12, s13⟩
                go_simp
                with_reducible rfl
              rotate_left
              · simp only [Act.put, List.setIfInBounds_toArray, List.set_cons_zero, List.set_cons_succ, i64_w, i32_w]
                rfl
              refine take_ (i := 10) (N := some 82) (v := ?_) (a' := ?_) #[true, true, true, true, true, true, true, true, true, true, true, true, false, false, false] rfl rfl (by kernel_rfl) (fun _ _ _ h => h) (Or.inl ⟨by rfl, ?_⟩) hHeld ?_ ?_
              rotate_left
              · rintro w' ⟨s0, s1, s2, s3, s4, s5, s6, s7, s8, s9, s10, s11, s12, s13⟩
                go_simp
                with_reducible rfl
              rotate_left
              · simp only [Act.put, List.setIfInBounds_toArray, List.set_cons_zero, List.set_cons_succ, i64_w, i32_w]
                rfl
              refine pure_ (i := 12) (N := some 84) (v := ?_) (a' := ?_) #[true, true, true, true, true, true, true, true, true, true, true, true, true, false, false] rfl rfl (by kernel_rfl) (fun _ _ _ h => h) (Or.inl ⟨by rfl, ?_⟩) ?_ ?_
              rotate_left
              · intro w'
                go_simp
                with_reducible rfl
              rotate_left
              · simp only [Act.put, List.setIfInBounds_toArray, List.set_cons_zero, List.set_cons_succ, i64_w, i32_w]
                rfl
              refine take_ (i := 13) (N := some 85) (v := ?_) (a' := ?_) #[true, true, true, true, true, true, true, true, true, true, true, true, true, true, false] rfl rfl (by kernel_rfl) (fun _ _ _ h => h) (Or.inl ⟨by rfl, ?_⟩) hHeld ?_ ?_
              rotate_left
              · rintro w' ⟨s0, s1, s2, s3, s4, s5, s6, s7, s8, s9, s10, s11, s12, s13⟩
                go_simp
                with_reducible rfl
              rotate_left
              · simp only [Act.put, List.setIfInBounds_toArray, List.set_cons_zero, List.set_cons_succ, i64_w, i32_w]
                rfl
              refine pure_ (i := 14) (N := some 86) (v := ?_) (a' := ?_) #[true, true, true, true, true, true, true, true, true, true, true, true, true, true, true] rfl rfl (by kernel_rfl) (fun _ _ _ h => h) (Or.inl ⟨by rfl, ?_⟩) ?_ ?_
              rotate_left
              · intro w'
                go_simp
                with_reducible rfl
              rotate_left
              · simp only [Act.put, List.setIfInBounds_toArray, List.set_cons_zero, List.set_cons_succ, i64_w, i32_w]
                rfl
              refine done_ (by kernel_rfl) ?_
              clear hHeld h0 h1 g0 g1 g2 g3 g4 g5 i0 i1 i2 i3 i4 i5
              have HQ2 := Aside0.mk (below_drew1 HQ.out)
              clear HQ
              go_wp2
              go_roundg gk3
              case measure => omega
              case rel => exact ⟨k + 1, by go_num, by omega, by omega, HQ2⟩
            · obtain rfl : m = k := by omega
              have b3' : decide ((m : Int) < (m : Int)) = false := decide_eq_false (by omega)
              have b3n : decide (m < m) = false := decide_eq_false (by omega)
              clear hkk
              go_wp2
              go_roundg gk2
              case measure => omega
              case rel => exact ⟨i + 1, by go_num, by omega, by omega, HQ⟩
        · obtain rfl : n = i := by omega
          have b2' : decide ((n : Int) < (n : Int)) = false := decide_eq_false (by omega)
          have b2n : decide (n < n) = false := decide_eq_false (by omega)
          have KN := Aside0.mk (blk_below KN.out HQ.out)
          have KW := Aside0.mk (blk_below KW.out HQ.out)
          have EN := Aside0.mk (EN.out.below HQ.out)
          have EW := Aside0.mk (EW.out.below HQ.out)
          have HBe := Aside0.mk (below_step (below_step HB.out HBz.out) HQ.out)
          clear hkq HQ
          have cN0 := blk_cell KN.out 0
          have cN1 := blk_cell KN.out 1
          have cN2 := blk_cell KN.out 2
          have cN3 := blk_cell KN.out 3
          have cN4 := blk_cell KN.out 4
          have cW0 := blk_cell KW.out 0
          have cW1 := blk_cell KW.out 1
          have cW2 := blk_cell KW.out 2
          have cW3 := blk_cell KW.out 3
          have cW4 := blk_cell KW.out 4
          go_wp2_with fail
          (with_reducible refine (same15 b0 b1 b2 Y3 y3 [] Y4 y4 (whL 0 L) R3 r3 R4 r4 0 rm rfl HRM.out (Nat.zero_le _) HRL2.out _ EN.out.c3.1 EN.out.c3.2 EN.out.c4.1 EN.out.c4.2 EW.out.c3.1 EW.out.c3.2 EW.out.c4.1 EW.out.c4.2).mono ?_)
          rintro e w9 ⟨rfl, hb⟩
          have HBe := Aside0.mk (below_step HBe.out hb)
          clear hb
          go_wp2
          go_ret
          exact ⟨rfl, HBe.out⟩

end Go.Proofs.Ytppldgbgdgeegaa.G

/- Contracts typed by hand: the law EditWhole, for its second form -/
namespace Go.Proofs.Ytppldgbgdgeegaa.G
open Go.RowKit Go.Proofs.YtppldgbgdgeegaaW.PrintWords Go.Proofs.YtppldgbgdgeegaaW.PrintLast Go.Proofs.YtppldgbgdgeegaaW.PrintMore
attribute [local go_sem] max2_int min2_int max_two min_two max_three min_three max_four min_four
set_option linter.unusedVariables false
set_option linter.unusedSimpArgs false

/-! the law EditWhole, for its second form -/
open Go.WideMaps Go.WideElems
theorem open_n15 {w : World} {cs : Array Value} {x : Int × Int × Int} (h : (Kd.pair (Kd.int .i64) (Kd.pair (Kd.int .i64) (Kd.int .u64))).K w x cs.toList) : cs = #[.int .i64 x.1, .int .i64 x.2.1, .int .u64 x.2.2] := by
  obtain ⟨a1, c1, e1, h1, ⟨a2, a3, e2, h2, h3⟩⟩ := h
  have i1 : a1 = [.int .i64 x.1] := h1
  have i2 : a2 = [.int .i64 x.2.1] := h2
  have i3 : a3 = [.int .u64 x.2.2] := h3
  subst i1 i2 i3
  subst e2
  apply Array.toList_inj.1
  simpa using e1
theorem sum_bulk15 (b : S36 → Nat) (hb : ∀ x, 1 ≤ b x) : ∀ l : List (List S36), (l.map List.length).sum ≤ sumBulk (fun fs => sumBulk b fs + 1) l := by
  intro l
  induction l with
  | nil => exact Nat.zero_le _
  | cons x r ih =>
    rw [sumBulk_cons, List.map_cons, List.sum_cons]
    have := sumBulk_len b hb x
    omega
theorem EditWhole_upto (w : World) (A0 : Option Addr) (c0 : Nat) (l0 : List (List S36)) (hc0 : l0.length ≤ c0) (hr0 : Kd.C (Kd.slice 36 k36) w A0 l0.length l0) (hg0 : ∀ x ∈ l0, ∀ y ∈ x, (Lit.int .i64 y.f0).wf = true ∧ (Lit.int .i64 y.f1).wf = true ∧ y.f2.size ≤ maxLen ∧ y.f3.size ≤ maxLen ∧ (Lit.int .u64 y.f4).wf = true ∧ (Lit.int .u64 y.f5).wf = true)
    (cs1 : Array Value) (x1 : Int × Int × Int) (hK1 : (Kd.pair (Kd.int .i64) (Kd.pair (Kd.int .i64) (Kd.int .u64))).K w x1 cs1.toList) (hg1 : (Lit.int .i64 x1.1).wf = true ∧ (Lit.int .i64 x1.2.1).wf = true ∧ (Lit.int .u64 x1.2.2).wf = true)
    (hbulk : (sumBulk (fun fs : List S36 => sumBulk (fun f : S36 => 1 + 1 + (f.f2.size + 1) + (f.f3.size + 1) + 1 + 1 + 1) fs + 1) l0 + 1) + (1 + 1 + 1 + 1) ≤ 1048576) :
    Calls Try.prog 3 #[.slice A0 l0.length c0, .agg cs1] w fun e w' => e = .returned (.bool true) ∧ Below w.heap.size w w' := by
  have hcs := open_n15 hK1
  subst hcs
  have l1 := sumBulk_len (fun fs : List S36 => sumBulk (fun f : S36 => 1 + 1 + (f.f2.size + 1) + (f.f3.size + 1) + 1 + 1 + 1) fs + 1) (fun _ => by omega) l0
  have l2 := sum_bulk15 (fun f : S36 => 1 + 1 + (f.f2.size + 1) + (f.f3.size + 1) + 1 + 1 + 1) (fun _ => by omega) l0
  exact whole_calls A0 c0 l0 x1.1 x1.2.1 x1.2.2 w l0.length rfl (by omega) (by omega) hr0 hc0

end Go.Proofs.Ytppldgbgdgeegaa.G
