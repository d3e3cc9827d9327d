/- Contracts of functions and plain laws, several texts of the session put together by its program. -/
import Derived.Test.YthkooncibfkepaaQ0
import Derived.Test.YthkooncibfkepaaProg
import Derived.Below
import Derived.Deep.Draws
import Derived.Deep.AppendLies
import Derived.Maps.AppendAt
import Derived.OwnWalk
import Derived.Laws.BytesArg
import Derived.Laws.MakeOwn
import Derived.Laws.OwnMore
import Derived.Deep.OwnRows
import Derived.Tactics
import Derived.Lib.ConvBytes
import Derived.Laws.Slices
import Derived.WalkKit
import Derived.KernelRfl
import Derived.RowKit3
import Derived.Deep.LoopGhost
import Derived.Deep.QuietTactic
import Derived.BigQuiet
import Derived.WideLaws
import Derived.Deep.DeepCutAuto
import Derived.Deep.CutBlock
import Derived.Deep.RegionHeld3
import Derived.Laws.Rows
import Derived.Lib.AppendStr
import Derived.ArgAppend
import Derived.Laws.IdiomCopy
import Derived.OrdersHeld
import Derived.Laws.BitsLemmas
import Derived.RowKit
import Derived.Test.YthkooncibfkepaaWWords
import Derived.Test.YthkooncibfkepaaWLast
import Derived.Test.YthkooncibfkepaaWTab
import Derived.Test.YthkooncibfkepaaWFour
import Derived.Test.YthkooncibfkepaaWQPut
import Derived.Test.YthkooncibfkepaaWApart
import Derived.Test.YthkooncibfkepaaWArr
import Derived.Test.YthkooncibfkepaaWZeros
import Derived.Test.YthkooncibfkepaaWFoot
import Derived.Test.YthkooncibfkepaaWKept
import Derived.Test.YthkooncibfkepaaWShare
import Derived.Test.YthkooncibfkepaaWN
import Derived.Test.YthkooncibfkepaaWFootNe
import Derived.Test.YthkooncibfkepaaWAt
import Derived.Test.YthkooncibfkepaaWEqStruct
import Derived.Test.YthkooncibfkepaaWRepsOne
import Derived.Test.YthkooncibfkepaaWInv
import Derived.Test.YthkooncibfkepaaWInvWords
import Derived.Test.YthkooncibfkepaaWGuard
import Derived.Test.YthkooncibfkepaaWNEv
import Derived.Test.YthkooncibfkepaaWMore
import Derived.Test.YthkooncibfkepaaQ2
import Derived.Test.YthkooncibfkepaaQ1

/- Printed by the session's program over the kit's print, out of the translation: functions as plain Lean functions, and the proofs that the calls come to them. -/
namespace Go.Proofs.Ythkooncibfkepaa.G
open Go.RowKit Go.Proofs.YthkooncibfkepaaW.PrintWords Go.Proofs.YthkooncibfkepaaW.PrintLast Go.Proofs.YthkooncibfkepaaW.PrintMore
attribute [local go_sem] max2_int min2_int max_two min_two max_three min_three max_four min_four   -- for this text's walks alone
set_option linter.unusedVariables false
set_option linter.unusedSimpArgs false

/-! ### moraineref04_Put: function 60 -/
def moraineref04_Put.f (k : Nat) (l0 : List (S65)) (a1_0 : Int) (a1_1 : ByteArray) (a1_2 : ByteArray) : Option ((List (S65)) × Int) := (moraineref04_May.f k a1_0 a1_1 a1_2).bind fun t308 => (if t308 = true then ((some (([] : List (S65)) : List (S65))).bind fun y309 => (if y309.length + l0.length < 3518437208883 then ((some (y309 ++ l0 : List (S65))).bind fun y312 => ((some (([(⟨a1_0, a1_1, a1_2⟩ : S65)] : List (S65)) : List (S65))).bind fun y315 => (if y312.length + y315.length < 3518437208883 then ((some (y312 ++ y315 : List (S65))).bind fun y318 => (if (y318.length : Int) > 4096 then (some (l0, 3)) else ((moraineref04_size.f k y318).bind fun t321 => (if t321 > 1048576 then (some (l0, 3)) else (some (y318, 0)))))) else (none)))) else (none))) else (some (l0, 40)))
theorem moraineref04_Put.mono : ∀ a0 a1 a2 a3 k, LeO (moraineref04_Put.f k a0 a1 a2 a3) (moraineref04_Put.f (k + 1) a0 a1 a2 a3) := by
  intro a0 a1 a2 a3 k
  unfold moraineref04_Put.f
  repeat' first
      | (with_reducible exact moraineref04_May.mono _ _ _ _)
      | (with_reducible exact moraineref04_size.mono _ _)
      | (with_reducible exact LeO.refl _)
      | (with_reducible exact LeO.none _)
      | (with_reducible refine LeO.ite ?_ ?_)
      | (with_reducible refine LeO.bind ?_ (fun _ => ?_))
      | exact moraineref04_May.mono _ _ _ _
      | exact moraineref04_size.mono _ _
      | exact LeO.none _
      | refine LeO.ite ?_ ?_
      | refine LeO.bind ?_ (fun _ => ?_)
set_option maxHeartbeats 8000000 in
set_option maxRecDepth 100000 in
theorem moraineref04_Put.calls (k : Nat) (P0_ : Nat → Prop) (u9000_ : Value) (l0 : List (S65)) (a1_0 : Int) (a1_1 : ByteArray) (a1_2 : ByteArray) (r1 : List (S65)) (r2 : Int) (w0 w : World) (hB : Below w0.heap.size w0 w) (ho0 : Kd.R k65 65 w w0.heap.size P0_ u9000_ l0) (h : moraineref04_Put.f k l0 a1_0 a1_1 a1_2 = some (r1, r2)) :
    Calls Try.prog 60 #[u9000_, .agg #[.int .i64 a1_0, .string a1_1, .string a1_2]] w fun e w' => ∃ v0_ : Value, e = .returned (.tuple #[v0_, .int .i64 r2]) ∧ Kd.R k65 65 w' w0.heap.size (fun k_ => (P0_ k_ ∨ w.heap.size ≤ k_)) v0_ r1 ∧ Below w0.heap.size w0 w' ∧ Kept w w' (fun k_ => P0_ k_) := by
  have hu65 := Try.underlying65
  have HO0 := Aside0.mk (show Kd.R k65 65 w w0.heap.size (fun k_ => (P0_ k_ ∨ w.heap.size ≤ k_)) u9000_ l0 from Kd.R_mono ho0 (fun k_ hk => (.inl hk)))
  have HK := Aside0.mk (Kept.refl w (fun k_ => P0_ k_))
  have HW0 := Aside0.mk hB.size
  have HB := Aside0.mk hB
  clear hB
  have H : ((moraineref04_May.f k a1_0 a1_1 a1_2).bind fun t308 => (if t308 = true then ((some (([] : List (S65)) : List (S65))).bind fun y309 => (if y309.length + l0.length < 3518437208883 then ((some (y309 ++ l0 : List (S65))).bind fun y312 => ((some (([(⟨a1_0, a1_1, a1_2⟩ : S65)] : List (S65)) : List (S65))).bind fun y315 => (if y312.length + y315.length < 3518437208883 then ((some (y312 ++ y315 : List (S65))).bind fun y318 => (if (y318.length : Int) > 4096 then (some (l0, 3)) else ((moraineref04_size.f k y318).bind fun t321 => (if t321 > 1048576 then (some (l0, 3)) else (some (y318, 0)))))) else (none)))) else (none))) else (some (l0, 40)))) = some (r1, r2) := h
  clear h
  replace H := Option.bind_eq_some_iff.mp H
  obtain ⟨t308, A30, H⟩ := H
  replace H : (if t308 = true then ((some (([] : List (S65)) : List (S65))).bind fun y309 => (if y309.length + l0.length < 3518437208883 then ((some (y309 ++ l0 : List (S65))).bind fun y312 => ((some (([(⟨a1_0, a1_1, a1_2⟩ : S65)] : List (S65)) : List (S65))).bind fun y315 => (if y312.length + y315.length < 3518437208883 then ((some (y312 ++ y315 : List (S65))).bind fun y318 => (if (y318.length : Int) > 4096 then (some (l0, 3)) else ((moraineref04_size.f k y318).bind fun t321 => (if t321 > 1048576 then (some (l0, 3)) else (some (y318, 0)))))) else (none)))) else (none))) else (some (l0, 40))) = some (r1, r2) := H
  have A3 := Aside0.mk A30
  clear A30
  by_cases c4 : t308 = true
  · subst c4
    have H1 : ((some (([] : List (S65)) : List (S65))).bind fun y309 => (if y309.length + l0.length < 3518437208883 then ((some (y309 ++ l0 : List (S65))).bind fun y312 => ((some (([(⟨a1_0, a1_1, a1_2⟩ : S65)] : List (S65)) : List (S65))).bind fun y315 => (if y312.length + y315.length < 3518437208883 then ((some (y312 ++ y315 : List (S65))).bind fun y318 => (if (y318.length : Int) > 4096 then (some (l0, 3)) else ((moraineref04_size.f k y318).bind fun t321 => (if t321 > 1048576 then (some (l0, 3)) else (some (y318, 0)))))) else (none)))) else (none))) = some (r1, r2) := by rw [if_pos rfl] at H; exact H
    clear H
    have H := H1
    clear H1
    obtain ⟨y309, hy309⟩ : ∃ y_ : List (S65), y_ = (([] : List (S65))) := ⟨_, rfl⟩
    replace H : (if y309.length + l0.length < 3518437208883 then ((some (y309 ++ l0 : List (S65))).bind fun y312 => ((some (([(⟨a1_0, a1_1, a1_2⟩ : S65)] : List (S65)) : List (S65))).bind fun y315 => (if y312.length + y315.length < 3518437208883 then ((some (y312 ++ y315 : List (S65))).bind fun y318 => (if (y318.length : Int) > 4096 then (some (l0, 3)) else ((moraineref04_size.f k y318).bind fun t321 => (if t321 > 1048576 then (some (l0, 3)) else (some (y318, 0)))))) else (none)))) else (none)) = some (r1, r2) := by first | (rw [hy309]; with_reducible exact H) | (have H2_ := (Option.bind_some _ _).symm.trans H; rw [hy309]; with_reducible exact H2_) | (have H2_ := (Option.bind_some _ _).symm.trans H; with_reducible exact H2_) | with_reducible exact H | (rw [hy309]; exact H) | exact H
    have Ny309 := Aside0.mk hy309
    clear hy309
    by_cases c5 : y309.length + l0.length < 3518437208883
    · rw [if_pos c5] at H
      have LMc5 := Aside0.mk c5
      clear c5
      obtain ⟨y312, hy312⟩ : ∃ y_ : List (S65), y_ = (y309 ++ l0) := ⟨_, rfl⟩
      replace H : ((some (([(⟨a1_0, a1_1, a1_2⟩ : S65)] : List (S65)) : List (S65))).bind fun y315 => (if y312.length + y315.length < 3518437208883 then ((some (y312 ++ y315 : List (S65))).bind fun y318 => (if (y318.length : Int) > 4096 then (some (l0, 3)) else ((moraineref04_size.f k y318).bind fun t321 => (if t321 > 1048576 then (some (l0, 3)) else (some (y318, 0)))))) else (none))) = some (r1, r2) := by first | (rw [hy312]; with_reducible exact H) | (have H2_ := (Option.bind_some _ _).symm.trans H; rw [hy312]; with_reducible exact H2_) | (have H2_ := (Option.bind_some _ _).symm.trans H; with_reducible exact H2_) | with_reducible exact H | (rw [hy312]; exact H) | exact H
      have Ny312 := Aside0.mk hy312
      clear hy312
      obtain ⟨y315, hy315⟩ : ∃ y_ : List (S65), y_ = (([(⟨a1_0, a1_1, a1_2⟩ : S65)] : List (S65))) := ⟨_, rfl⟩
      replace H : (if y312.length + y315.length < 3518437208883 then ((some (y312 ++ y315 : List (S65))).bind fun y318 => (if (y318.length : Int) > 4096 then (some (l0, 3)) else ((moraineref04_size.f k y318).bind fun t321 => (if t321 > 1048576 then (some (l0, 3)) else (some (y318, 0)))))) else (none)) = some (r1, r2) := by first | (rw [hy315]; with_reducible exact H) | (have H2_ := (Option.bind_some _ _).symm.trans H; rw [hy315]; with_reducible exact H2_) | (have H2_ := (Option.bind_some _ _).symm.trans H; with_reducible exact H2_) | with_reducible exact H | (rw [hy315]; exact H) | exact H
      have Ny315 := Aside0.mk hy315
      clear hy315
      by_cases c6 : y312.length + y315.length < 3518437208883
      · rw [if_pos c6] at H
        have LMc6 := Aside0.mk c6
        clear c6
        obtain ⟨y318, hy318⟩ : ∃ y_ : List (S65), y_ = (y312 ++ y315) := ⟨_, rfl⟩
        replace H : (if (y318.length : Int) > 4096 then (some (l0, 3)) else ((moraineref04_size.f k y318).bind fun t321 => (if t321 > 1048576 then (some (l0, 3)) else (some (y318, 0))))) = some (r1, r2) := by first | (rw [hy318]; with_reducible exact H) | (have H2_ := (Option.bind_some _ _).symm.trans H; rw [hy318]; with_reducible exact H2_) | (have H2_ := (Option.bind_some _ _).symm.trans H; with_reducible exact H2_) | with_reducible exact H | (rw [hy318]; exact H) | exact H
        have Ny318 := Aside0.mk hy318
        clear hy318
        by_cases c7 : (y318.length : Int) > 4096
        · rw [if_pos c7] at H
          have c7b0 : decide (4096 < (y318.length : Int)) = true := decide_eq_true c7
          have c7b1 : decide (4096 < y318.length) = true := decide_eq_true (by omega)
          clear c7
          simp only [Option.some.injEq, Prod.mk.injEq] at H
          obtain ⟨rfl, rfl⟩ := H
          go_enter Try.func60, Try.ntmps60
          try go_wp2_with (first | ((with_reducible refine gate_dst (N := 3) rfl ?_); refine box_event ?hg (N := 3) ?hd (cs := #[.int .i64 a1_0, .string a1_1, .string a1_2]) (t := 65) ?hr ?_; (case hd => rfl); (case hg => rfl); (case hr => first | (go_simp; done) | (go_simp; rfl)); intro gb307 hg w8 hbox hb; have n0_ := Aside0.mk (Kd.R_below (Kd.R_elderB (by (with_reducible repeat (first | apply Kd.R_alloc | apply Kd.R_drewN | apply Kd.R_drew)); exact HO0.out) gb307 (Nat.le_of_eq hg.symm)) hb); have n1_ := Aside0.mk (Kept.below (S := (fun k_ => P0_ k_)) (by repeat (first | (with_reducible first | exact HK.out | apply Kept.alloc | apply Kept.drewN | apply Kept.drew) | exact HK.out)) hb); have n2_ := Aside0.mk (below_step (by repeat (first | (with_reducible first | exact HB.out | apply below_alloc | apply pw_below_drewN | apply below_drew1) | exact HB.out)) hb); have n3_ := Aside0.mk (hbox); have n4_ := Aside0.mk ((by rw [hg]; exact (by first | exact HK.out.1 | exact (show Kept w _ (fun k_ => P0_ k_) from by repeat (first | (with_reducible first | exact HK.out | apply Kept.alloc | apply Kept.drewN | apply Kept.drew) | exact HK.out)).1) : w.heap.size ≤ gb307)); have n5_ := Aside0.mk ((by rw [hg]; exact (below_size (by repeat (first | (with_reducible first | exact HB.out | apply below_alloc | apply pw_below_drewN | apply below_drew1) | exact HB.out))) : w0.heap.size ≤ gb307)); clear HO0; clear HK; clear HB; have HO0 := n0_; have HK := n1_; have HB := n2_; have BK307 := n3_; have GW307 := n4_; have GE307 := n5_; clear n0_ n1_ n2_ n3_ n4_ n5_; clear hb hbox hg; have hcz9_0 : w8.cell? ⟨gb307, 0, none⟩ = some (.int .i64 a1_0) := (blk_cell BK307.out 0).trans rfl; have hcz9_1 : w8.cell? ⟨gb307, 1, none⟩ = some (.string a1_1) := (blk_cell BK307.out 1).trans rfl; have hcz9_2 : w8.cell? ⟨gb307, 2, none⟩ = some (.string a1_2) := (blk_cell BK307.out 2).trans rfl; have hfz9_0 := blk_frozen BK307.out 0; have hfz9_1 := blk_frozen BK307.out 1; have hfz9_2 := blk_frozen BK307.out 2) | ((with_reducible refine gate_callee (f := 51) rfl ?_); refine goesL_ (some 8) rfl rfl Try.func51 (by kernel_rfl) rfl #[.agg #[.int .i64 a1_0, .string a1_1, .string a1_2]] rfl (by (try simp only [List.map_toArray, List.map_cons, List.map_nil]); first | done | rfl | (simp only [List.length_drop, List.length_take]; rfl)) ?_; (with_reducible refine (moraineref04_May.calls k a1_0 a1_1 a1_2 true _ A3.out).mono ?_); rintro e w10 ⟨rfl, hb⟩; refine ⟨_, rfl, ?_⟩; have n0_ := Aside0.mk (Kd.R_below (by (with_reducible repeat (first | apply Kd.R_alloc | apply Kd.R_drewN | apply Kd.R_drew)); exact HO0.out) hb); have n1_ := Aside0.mk (blk_below (g := gb307) (o := .cells #[.int .i64 a1_0, .string a1_1, .string a1_2] 65 (0, 0)) (by (with_reducible repeat (first | refine blk_drewN ?_ _ | refine blk_drew ?_ | refine blk_alloc ?_ _)); exact BK307.out) hb); have n2_ := Aside0.mk (Kept.below (S := (fun k_ => P0_ k_)) (by repeat (first | (with_reducible first | exact HK.out | apply Kept.alloc | apply Kept.drewN | apply Kept.drew | refine Kept.setCell ?_ (.inr GW307.out) _) | exact HK.out)) hb); have n3_ := Aside0.mk (below_step (by repeat (first | (with_reducible first | exact HB.out | apply below_alloc | apply pw_below_drewN | apply below_drew1 | refine below_set ?_ GE307.out) | exact HB.out)) hb); clear HO0; clear BK307; clear HK; clear HB; have HO0 := n0_; have BK307 := n1_; have HK := n2_; have HB := n3_; clear n0_ n1_ n2_ n3_; (try clear hb); (try clear hb2); (try clear hk); (try clear hi); obtain ⟨Ao11, co11, eo11⟩ := Kd.R_slice HO0.out; subst eo11))
          have n0_ := Aside0.mk (Kd.R_drew HO0.out)
          have n1_ := Aside0.mk (blk_drew BK307.out)
          have n2_ := Aside0.mk (Kept.drew HK.out)
          have n3_ := Aside0.mk (below_drew1 HB.out)
          clear HO0
          clear BK307
          clear HK
          clear HB
          have HO0 := n0_
          have BK307 := n1_
          have HK := n2_
          have HB := n3_
          clear n0_ n1_ n2_ n3_
          refine start_ (n := 7) (S := fun w' => w'.cell? ⟨gb307, 0, none⟩ = some (.int .i64 a1_0) ∧ w'.cell? ⟨gb307, 1, none⟩ = some (.string a1_1) ∧ w'.cell? ⟨gb307, 2, none⟩ = some (.string a1_2)) (ds := []) #[false, false, false, false, false, false, false] (by kernel_rfl) rfl rfl ⟨(blk_cell BK307.out 0).trans rfl, (blk_cell BK307.out 1).trans rfl, (blk_cell BK307.out 2).trans rfl⟩ (fun hHeld => ?_)
          generalize w10.drew = w12 at HO0 BK307 HK HB hHeld ⊢
          refine pure_ (i := 1) (N := some 12) (v := ?_) (a' := ?_) #[false, true, false, false, false, false, false] rfl rfl (by kernel_rfl) (fun _ _ _ h => h) (Or.inl ⟨by rfl, ?_⟩) ?_ ?_
          rotate_left
          · intro w'
            go_simp
            with_reducible rfl
          rotate_left
          · simp only [Act.put, List.setIfInBounds_toArray, List.set_cons_zero, List.set_cons_succ, i64_w, i32_w]
            rfl
          refine take_ (i := 3) (N := some 14) (v := ?_) (a' := ?_) #[false, true, false, true, false, false, false] rfl rfl (by kernel_rfl) (fun _ _ _ h => h) (Or.inl ⟨by rfl, ?_⟩) hHeld ?_ ?_
          rotate_left
          · rintro w' ⟨s0, s1, s2⟩
            go_simp
            with_reducible rfl
          rotate_left
          · simp only [Act.put, List.setIfInBounds_toArray, List.set_cons_zero, List.set_cons_succ, i64_w, i32_w]
            rfl
          refine join_ (σ := Value × Value × Value) 2 #[true, true, true, true, true, false, false] (fun s_ => [(11, s_.1), (13, s_.2.1), (15, s_.2.2)]) (fun s_ w' => (w'.cell? ⟨gb307, 0, none⟩ = some (.int .i64 a1_0) ∧ w'.cell? ⟨gb307, 1, none⟩ = some (.string a1_1) ∧ w'.cell? ⟨gb307, 2, none⟩ = some (.string a1_2)) ∧ (Kd.R k65 65 w' w0.heap.size (fun k_ => (P0_ k_ ∨ w.heap.size ≤ k_) ∧ some k_ ≠ (s_.2.1 : Value).ownBlock ∧ some k_ ≠ (s_.2.2 : Value).ownBlock ∧ k_ ≠ gb307) (.slice Ao11 l0.length co11) l0) ∧ (Kd.R k65 65 w' w0.heap.size (fun k_ => (P0_ k_ ∨ w.heap.size ≤ k_) ∧ some k_ ≠ (.slice Ao11 l0.length co11 : Value).ownBlock ∧ some k_ ≠ (s_.2.2 : Value).ownBlock ∧ k_ ≠ gb307) s_.2.1 y312) ∧ (Kd.R k65 65 w' w0.heap.size (fun k_ => (P0_ k_ ∨ w.heap.size ≤ k_) ∧ some k_ ≠ (.slice Ao11 l0.length co11 : Value).ownBlock ∧ some k_ ≠ (s_.2.1 : Value).ownBlock ∧ k_ ≠ gb307) s_.2.2 y315) ∧ (w'.heap[gb307]? = some (.cells #[.int .i64 a1_0, .string a1_1, .string a1_2] 65 (0, 0))) ∧ (Kept w w' (fun k_ => P0_ k_)) ∧ (Below w0.heap.size w0 w')) ?_ ?_
          rotate_left
          · intro hCont
            refine two_ (i := 0) (j := 4) (Ni := some 11) (Nj := some 15) #[true, true, false, true, false, false, false] #[false, true, false, true, true, false, false] rfl rfl rfl rfl (by kernel_rfl) (by decide) (by decide) (fun K hK => ?_) (fun K hK => ?_)
            · skip
              refine Kd.R_lit_step k65 _ 65 ?hg (N := 11) ?hd (xs := ([] : List (S65))) (inner := []) (ok := fun _ => True) (okp := fun _ => True) ?hr ?hp (fun _ hk => hk) trivial (Below.refl _ _) (Nat.le_refl _) (by simp) ?_; (case hd => rfl); (case hg => rfl); (case hr => first | (go_simp; done) | (go_simp; rfl)); (case hp => exact (Reps.none _ _))
              intro v310 w13 ho14 hb hg_ hnew_
              clear hg_ hnew_
              (first | rw [← Ny309.out] at ho14 | (simp only [Int.reduceToNat] at ho14; rw [← Ny309.out] at ho14))
              have n0_ := Aside0.mk (Kd.R_elder' (by (with_reducible repeat (first | apply Kd.R_alloc | apply Kd.R_drewN | apply Kd.R_drew)); exact HO0.out) (Kd.R_base ho14) hb)
              have n1_ := Aside0.mk (Kd.R_lower (Kd.R_newB (Kd.R_new' (Kd.R_newM (M := fun k_ => (P0_ k_ ∨ w.heap.size ≤ k_)) ho14 (by first | exact HK.out.1 | exact (show Kept w _ (fun k_ => P0_ k_) from by repeat (first | (with_reducible first | exact HK.out | apply Kept.alloc | apply Kept.drewN | apply Kept.drew | refine Kept.setCell ?_ (.inr GW307.out) _) | exact HK.out)).1) (fun k_ h_ => .inr h_)) (Kd.R_lt (by (with_reducible repeat (first | apply Kd.R_alloc | apply Kd.R_drewN | apply Kd.R_drew)); exact HO0.out))) (g := gb307) (o := .cells #[.int .i64 a1_0, .string a1_1, .string a1_2] 65 (0, 0)) (by (with_reducible repeat (first | refine blk_drewN ?_ _ | refine blk_drew ?_ | refine blk_alloc ?_ _)); exact BK307.out)) (below_size (by repeat (first | (with_reducible first | exact HB.out | apply below_alloc | apply pw_below_drewN | apply below_drew1 | refine below_set ?_ GE307.out) | exact HB.out))))
              have n2_ := Aside0.mk (blk_below (g := gb307) (o := .cells #[.int .i64 a1_0, .string a1_1, .string a1_2] 65 (0, 0)) (by (with_reducible repeat (first | refine blk_drewN ?_ _ | refine blk_drew ?_ | refine blk_alloc ?_ _)); exact BK307.out) hb)
              have n3_ := Aside0.mk (Kept.below (S := (fun k_ => P0_ k_)) (by repeat (first | (with_reducible first | exact HK.out | apply Kept.alloc | apply Kept.drewN | apply Kept.drew | refine Kept.setCell ?_ (.inr GW307.out) _) | exact HK.out)) hb)
              have n4_ := Aside0.mk (below_step (by repeat (first | (with_reducible first | exact HB.out | apply below_alloc | apply pw_below_drewN | apply below_drew1 | refine below_set ?_ GE307.out) | exact HB.out)) hb)
              clear HO0
              clear BK307
              clear HK
              clear HB
              have HO0 := n0_
              have HO311 := n1_
              have BK307 := n2_
              have HK := n3_
              have HB := n4_
              clear n0_ n1_ n2_ n3_ n4_
              clear hb ho14
              refine hK.out _ _ ⟨(blk_cell BK307.out 0).trans rfl, (blk_cell BK307.out 1).trans rfl, (blk_cell BK307.out 2).trans rfl⟩ (fun hHeld => ?_)
              clear hK K
              refine norm_ (a' := ?_) ?_ ?_
              rotate_left
              · show Act.put _ (some 11) _ = _
                simp only [Act.put, List.setIfInBounds_toArray, List.set_cons_zero, List.set_cons_succ, i64_w, i32_w]
                rfl
              refine two_ (i := 2) (j := 4) (Ni := some 13) (Nj := some 15) #[true, true, true, true, false, false, false] #[true, true, false, true, true, false, false] rfl rfl rfl rfl (by kernel_rfl) (by decide) (by decide) (fun K hK => ?_) (fun K hK => ?_)
              · skip
                refine Kd.R_append_rows_step k65 (w0 := w0) w0.heap.size (by rfl) (.tmp 11) (.tmp 12) 22 65 (.agg #[(.int .i64 0), (.string ⟨#[]⟩), (.string ⟨#[]⟩)]) 40 rfl Try.underlying22 info65 rfl (by decide) (by omega) v310 y309 l0 _ _ _ (fun k_ => (P0_ k_ ∨ w.heap.size ≤ k_) ∧ some k_ ≠ (.slice Ao11 l0.length co11 : Value).ownBlock ∧ k_ ≠ gb307) (fun _ => False) rfl rfl ?aO ?aR (fun _ _ h => h) (fun _ h => h.elim) ?aF ?aB ?aS ?aL ?_
                (case aR => repeat (first | exact (Kd.R_reads' HO0.out).2.2 | (with_reducible refine Kd.C_alloc ?_ _) | (with_reducible refine Kd.C_drewN ?_ _) | (with_reducible refine Kd.C_drew ?_)))
                (case aB => exact (by repeat (first | (with_reducible first | exact HB.out | apply below_alloc | apply pw_below_drewN | apply below_drew1 | refine below_set ?_ GE307.out) | exact HB.out)))
                (case aF => exact (fun k_ hk => ⟨(.inr (Nat.le_trans (by first | exact HK.out.1 | exact (show Kept w _ (fun k_ => P0_ k_) from by repeat (first | (with_reducible first | exact HK.out | apply Kept.alloc | apply Kept.drewN | apply Kept.drew | refine Kept.setCell ?_ (.inr GW307.out) _) | exact HK.out)).1) hk)), Kd.fresh' (Kd.R_lt (by (with_reducible repeat (first | apply Kd.R_alloc | apply Kd.R_drewN | apply Kd.R_drew)); exact HO0.out)) k_ hk, Kd.freshB (g := gb307) (o := .cells #[.int .i64 a1_0, .string a1_1, .string a1_2] 65 (0, 0)) (by (with_reducible repeat (first | refine blk_drewN ?_ _ | refine blk_drew ?_ | refine blk_alloc ?_ _)); exact BK307.out) k_ hk⟩))
                (case aO => exact (by (with_reducible repeat (first | apply Kd.R_alloc | apply Kd.R_drewN | apply Kd.R_drew)); exact Kd.R_mono HO311.out (fun _ hk => ⟨hk.1.1.1, ⟨hk.1.2, hk.2⟩⟩)))
                (case aS => exact (below_size (by repeat (first | (with_reducible first | exact HB.out | apply below_alloc | apply pw_below_drewN | apply below_drew1 | refine below_set ?_ GE307.out) | exact HB.out))))
                (case aL => have := LMc5.out; omega)
                intro v313 w15 ho hb hg hat
                rw [← Ny312.out] at ho
                have n0_ := Aside0.mk (Kd.R_after (ok := (fun k_ => (P0_ k_ ∨ w.heap.size ≤ k_) ∧ k_ ≠ gb307)) (by (with_reducible repeat (first | apply Kd.R_alloc | apply Kd.R_drewN | apply Kd.R_drew)); exact HO0.out) hg hat)
                have n1_ := Aside0.mk (blk_grown (g := gb307) (o := .cells #[.int .i64 a1_0, .string a1_1, .string a1_2] 65 (0, 0)) (by (with_reducible repeat (first | refine blk_drewN ?_ _ | refine blk_drew ?_ | refine blk_alloc ?_ _)); exact BK307.out) hg (Kd.R_away HO311.out (fun _ hk => hk.2)))
                have n2_ := Aside0.mk (hb)
                have n3_ := Aside0.mk (Kept.of_grown (S := (fun k_ => P0_ k_)) hg (by repeat (first | (with_reducible first | exact HK.out | apply Kept.alloc | apply Kept.drewN | apply Kept.drew | refine Kept.setCell ?_ (.inr GW307.out) _) | exact HK.out)) (fun k_ e_ => (HO311.out.1 k_ e_).1.1.1))
                have n4_ := Aside0.mk (ho)
                clear HO0
                clear BK307
                clear HB
                clear HK
                clear HO311
                have HO0 := n0_
                have BK307 := n1_
                have HB := n2_
                have HK := n3_
                have HO314 := n4_
                clear n0_ n1_ n2_ n3_ n4_
                clear ho hb hg hat
                refine hK.out _ _ ⟨(blk_cell BK307.out 0).trans rfl, (blk_cell BK307.out 1).trans rfl, (blk_cell BK307.out 2).trans rfl⟩ (fun hHeld => ?_)
                clear hK K
                refine norm_ (a' := ?_) ?_ ?_
                rotate_left
                · show Act.put _ (some 13) _ = _
                  simp only [Act.put, List.setIfInBounds_toArray, List.set_cons_zero, List.set_cons_succ, i64_w, i32_w]
                  rfl
                refine one_ (i := 4) (N := some 15) #[true, true, true, true, true, false, false] rfl rfl (by kernel_rfl) (by decide) (fun K hK => ?_)
                refine Kd.R_lit_step k65 _ 65 ?hg (N := 15) ?hd (xs := ([(⟨a1_0, a1_1, a1_2⟩ : S65)] : List (S65))) (inner := [.int .i64 a1_0, .string a1_1, .string a1_2]) (ok := fun _ => True) (okp := fun _ => True) ?hr ?hp (fun _ hk => hk) trivial (Below.refl _ _) (Nat.le_refl _) (by simp) ?_; (case hd => rfl); (case hg => rfl); (case hr => first | (go_simp; done) | (go_simp; rfl)); (case hp => exact (Reps.c3 (show Kd.M k65 _ _ _ (⟨a1_0, a1_1, a1_2⟩ : S65) [.int .i64 a1_0, .string a1_1, .string a1_2] from (k65_mkM _ _ _ (⟨a1_0, a1_1, a1_2⟩ : S65) )) (Reps.none _ _)))
                intro v316 w16 ho17 hb hg_ hnew_
                clear hg_ hnew_
                (first | rw [← Ny315.out] at ho17 | (simp only [Int.reduceToNat] at ho17; rw [← Ny315.out] at ho17))
                have n0_ := Aside0.mk (Kd.R_elder' (by (with_reducible repeat (first | apply Kd.R_alloc | apply Kd.R_drewN | apply Kd.R_drew)); exact HO0.out) (Kd.R_base ho17) hb)
                have n1_ := Aside0.mk (Kd.R_elder' (by (with_reducible repeat (first | apply Kd.R_alloc | apply Kd.R_drewN | apply Kd.R_drew)); exact HO314.out) (Kd.R_base ho17) hb)
                have n2_ := Aside0.mk (Kd.R_lower (Kd.R_newB (Kd.R_new' (Kd.R_new' (Kd.R_newM (M := fun k_ => (P0_ k_ ∨ w.heap.size ≤ k_)) ho17 (by first | exact HK.out.1 | exact (show Kept w _ (fun k_ => P0_ k_) from by repeat (first | (with_reducible first | exact HK.out | apply Kept.alloc | apply Kept.drewN | apply Kept.drew | refine Kept.setCell ?_ (.inr GW307.out) _) | exact HK.out)).1) (fun k_ h_ => .inr h_)) (Kd.R_lt (by (with_reducible repeat (first | apply Kd.R_alloc | apply Kd.R_drewN | apply Kd.R_drew)); exact HO0.out))) (Kd.R_lt (by (with_reducible repeat (first | apply Kd.R_alloc | apply Kd.R_drewN | apply Kd.R_drew)); exact HO314.out))) (g := gb307) (o := .cells #[.int .i64 a1_0, .string a1_1, .string a1_2] 65 (0, 0)) (by (with_reducible repeat (first | refine blk_drewN ?_ _ | refine blk_drew ?_ | refine blk_alloc ?_ _)); exact BK307.out)) (below_size (by repeat (first | (with_reducible first | exact HB.out | apply below_alloc | apply pw_below_drewN | apply below_drew1 | refine below_set ?_ GE307.out) | exact HB.out))))
                have n3_ := Aside0.mk (blk_below (g := gb307) (o := .cells #[.int .i64 a1_0, .string a1_1, .string a1_2] 65 (0, 0)) (by (with_reducible repeat (first | refine blk_drewN ?_ _ | refine blk_drew ?_ | refine blk_alloc ?_ _)); exact BK307.out) hb)
                have n4_ := Aside0.mk (Kept.below (S := (fun k_ => P0_ k_)) (by repeat (first | (with_reducible first | exact HK.out | apply Kept.alloc | apply Kept.drewN | apply Kept.drew | refine Kept.setCell ?_ (.inr GW307.out) _) | exact HK.out)) hb)
                have n5_ := Aside0.mk (below_step (by repeat (first | (with_reducible first | exact HB.out | apply below_alloc | apply pw_below_drewN | apply below_drew1 | refine below_set ?_ GE307.out) | exact HB.out)) hb)
                clear HO0
                clear HO314
                clear BK307
                clear HK
                clear HB
                have HO0 := n0_
                have HO314 := n1_
                have HO317 := n2_
                have BK307 := n3_
                have HK := n4_
                have HB := n5_
                clear n0_ n1_ n2_ n3_ n4_ n5_
                clear hb ho17
                refine hK.out _ _ ⟨(blk_cell BK307.out 0).trans rfl, (blk_cell BK307.out 1).trans rfl, (blk_cell BK307.out 2).trans rfl⟩ (fun hHeld => ?_)
                clear hK K
                refine norm_ (a' := ?_) ?_ ?_
                rotate_left
                · show Act.put _ (some 15) _ = _
                  simp only [Act.put, List.setIfInBounds_toArray, List.set_cons_zero, List.set_cons_succ, i64_w, i32_w]
                  rfl
                exact norm_ (by simp only [putAll, Act.put, List.setIfInBounds_toArray, List.set_cons_zero, List.set_cons_succ]) (hCont (v310, v313, v316) _ ⟨hHeld, (by (with_reducible repeat (first | apply Kd.R_alloc | apply Kd.R_drewN | apply Kd.R_drew)); exact Kd.R_mono HO0.out (fun _ hk => ⟨hk.1.1.1, ⟨hk.1.2, ⟨hk.2, hk.1.1.2⟩⟩⟩)), (by (with_reducible repeat (first | apply Kd.R_alloc | apply Kd.R_drewN | apply Kd.R_drew)); exact Kd.R_mono HO314.out (fun _ hk => ⟨hk.1.1, ⟨hk.1.2.1, ⟨hk.2, hk.1.2.2⟩⟩⟩)), (by (with_reducible repeat (first | apply Kd.R_alloc | apply Kd.R_drewN | apply Kd.R_drew)); exact Kd.R_mono HO317.out (fun _ hk => ⟨hk.1.1.1.1, ⟨hk.1.1.2, ⟨hk.1.2, hk.2⟩⟩⟩)), (by (with_reducible repeat (first | refine blk_drewN ?_ _ | refine blk_drew ?_ | refine blk_alloc ?_ _)); exact BK307.out), (by repeat (first | (with_reducible first | exact HK.out | apply Kept.alloc | apply Kept.drewN | apply Kept.drew | refine Kept.setCell ?_ (.inr GW307.out) _) | exact HK.out)), (by repeat (first | (with_reducible first | exact HB.out | apply below_alloc | apply pw_below_drewN | apply below_drew1 | refine below_set ?_ GE307.out) | exact HB.out))⟩)
              · skip
                refine Kd.R_lit_step k65 _ 65 ?hg (N := 15) ?hd (xs := ([(⟨a1_0, a1_1, a1_2⟩ : S65)] : List (S65))) (inner := [.int .i64 a1_0, .string a1_1, .string a1_2]) (ok := fun _ => True) (okp := fun _ => True) ?hr ?hp (fun _ hk => hk) trivial (Below.refl _ _) (Nat.le_refl _) (by simp) ?_; (case hd => rfl); (case hg => rfl); (case hr => first | (go_simp; done) | (go_simp; rfl)); (case hp => exact (Reps.c3 (show Kd.M k65 _ _ _ (⟨a1_0, a1_1, a1_2⟩ : S65) [.int .i64 a1_0, .string a1_1, .string a1_2] from (k65_mkM _ _ _ (⟨a1_0, a1_1, a1_2⟩ : S65) )) (Reps.none _ _)))
                intro v316 w15 ho16 hb hg_ hnew_
                clear hg_ hnew_
                (first | rw [← Ny315.out] at ho16 | (simp only [Int.reduceToNat] at ho16; rw [← Ny315.out] at ho16))
                have n0_ := Aside0.mk (Kd.R_elder' (by (with_reducible repeat (first | apply Kd.R_alloc | apply Kd.R_drewN | apply Kd.R_drew)); exact HO0.out) (Kd.R_base ho16) hb)
                have n1_ := Aside0.mk (Kd.R_elder' (by (with_reducible repeat (first | apply Kd.R_alloc | apply Kd.R_drewN | apply Kd.R_drew)); exact HO311.out) (Kd.R_base ho16) hb)
                have n2_ := Aside0.mk (Kd.R_lower (Kd.R_newB (Kd.R_new' (Kd.R_new' (Kd.R_newM (M := fun k_ => (P0_ k_ ∨ w.heap.size ≤ k_)) ho16 (by first | exact HK.out.1 | exact (show Kept w _ (fun k_ => P0_ k_) from by repeat (first | (with_reducible first | exact HK.out | apply Kept.alloc | apply Kept.drewN | apply Kept.drew | refine Kept.setCell ?_ (.inr GW307.out) _) | exact HK.out)).1) (fun k_ h_ => .inr h_)) (Kd.R_lt (by (with_reducible repeat (first | apply Kd.R_alloc | apply Kd.R_drewN | apply Kd.R_drew)); exact HO0.out))) (Kd.R_lt (by (with_reducible repeat (first | apply Kd.R_alloc | apply Kd.R_drewN | apply Kd.R_drew)); exact HO311.out))) (g := gb307) (o := .cells #[.int .i64 a1_0, .string a1_1, .string a1_2] 65 (0, 0)) (by (with_reducible repeat (first | refine blk_drewN ?_ _ | refine blk_drew ?_ | refine blk_alloc ?_ _)); exact BK307.out)) (below_size (by repeat (first | (with_reducible first | exact HB.out | apply below_alloc | apply pw_below_drewN | apply below_drew1 | refine below_set ?_ GE307.out) | exact HB.out))))
                have n3_ := Aside0.mk (blk_below (g := gb307) (o := .cells #[.int .i64 a1_0, .string a1_1, .string a1_2] 65 (0, 0)) (by (with_reducible repeat (first | refine blk_drewN ?_ _ | refine blk_drew ?_ | refine blk_alloc ?_ _)); exact BK307.out) hb)
                have n4_ := Aside0.mk (Kept.below (S := (fun k_ => P0_ k_)) (by repeat (first | (with_reducible first | exact HK.out | apply Kept.alloc | apply Kept.drewN | apply Kept.drew | refine Kept.setCell ?_ (.inr GW307.out) _) | exact HK.out)) hb)
                have n5_ := Aside0.mk (below_step (by repeat (first | (with_reducible first | exact HB.out | apply below_alloc | apply pw_below_drewN | apply below_drew1 | refine below_set ?_ GE307.out) | exact HB.out)) hb)
                clear HO0
                clear HO311
                clear BK307
                clear HK
                clear HB
                have HO0 := n0_
                have HO311 := n1_
                have HO317 := n2_
                have BK307 := n3_
                have HK := n4_
                have HB := n5_
                clear n0_ n1_ n2_ n3_ n4_ n5_
                clear hb ho16
                refine hK.out _ _ ⟨(blk_cell BK307.out 0).trans rfl, (blk_cell BK307.out 1).trans rfl, (blk_cell BK307.out 2).trans rfl⟩ (fun hHeld => ?_)
                clear hK K
                refine norm_ (a' := ?_) ?_ ?_
                rotate_left
                · show Act.put _ (some 15) _ = _
                  simp only [Act.put, List.setIfInBounds_toArray, List.set_cons_zero, List.set_cons_succ, i64_w, i32_w]
                  rfl
                refine one_ (i := 2) (N := some 13) #[true, true, true, true, true, false, false] rfl rfl (by kernel_rfl) (by decide) (fun K hK => ?_)
                refine Kd.R_append_rows_step k65 (w0 := w0) w0.heap.size (by rfl) (.tmp 11) (.tmp 12) 22 65 (.agg #[(.int .i64 0), (.string ⟨#[]⟩), (.string ⟨#[]⟩)]) 40 rfl Try.underlying22 info65 rfl (by decide) (by omega) v310 y309 l0 _ _ _ (fun k_ => (P0_ k_ ∨ w.heap.size ≤ k_) ∧ some k_ ≠ (.slice Ao11 l0.length co11 : Value).ownBlock ∧ some k_ ≠ (v316 : Value).ownBlock ∧ k_ ≠ gb307) (fun _ => False) rfl rfl ?aO ?aR (fun _ _ h => h) (fun _ h => h.elim) ?aF ?aB ?aS ?aL ?_
                (case aR => repeat (first | exact (Kd.R_reads' HO0.out).2.2 | (with_reducible refine Kd.C_alloc ?_ _) | (with_reducible refine Kd.C_drewN ?_ _) | (with_reducible refine Kd.C_drew ?_)))
                (case aB => exact (by repeat (first | (with_reducible first | exact HB.out | apply below_alloc | apply pw_below_drewN | apply below_drew1 | refine below_set ?_ GE307.out) | exact HB.out)))
                (case aF => exact (fun k_ hk => ⟨(.inr (Nat.le_trans (by first | exact HK.out.1 | exact (show Kept w _ (fun k_ => P0_ k_) from by repeat (first | (with_reducible first | exact HK.out | apply Kept.alloc | apply Kept.drewN | apply Kept.drew | refine Kept.setCell ?_ (.inr GW307.out) _) | exact HK.out)).1) hk)), Kd.fresh' (Kd.R_lt (by (with_reducible repeat (first | apply Kd.R_alloc | apply Kd.R_drewN | apply Kd.R_drew)); exact HO0.out)) k_ hk, Kd.fresh' (Kd.R_lt (by (with_reducible repeat (first | apply Kd.R_alloc | apply Kd.R_drewN | apply Kd.R_drew)); exact HO317.out)) k_ hk, Kd.freshB (g := gb307) (o := .cells #[.int .i64 a1_0, .string a1_1, .string a1_2] 65 (0, 0)) (by (with_reducible repeat (first | refine blk_drewN ?_ _ | refine blk_drew ?_ | refine blk_alloc ?_ _)); exact BK307.out) k_ hk⟩))
                (case aO => exact (by (with_reducible repeat (first | apply Kd.R_alloc | apply Kd.R_drewN | apply Kd.R_drew)); exact Kd.R_mono HO311.out (fun _ hk => ⟨hk.1.1.1.1, ⟨hk.1.1.2, ⟨hk.2, hk.1.2⟩⟩⟩)))
                (case aS => exact (below_size (by repeat (first | (with_reducible first | exact HB.out | apply below_alloc | apply pw_below_drewN | apply below_drew1 | refine below_set ?_ GE307.out) | exact HB.out))))
                (case aL => have := LMc5.out; omega)
                intro v313 w17 ho hb hg hat
                rw [← Ny312.out] at ho
                have n0_ := Aside0.mk (Kd.R_after (ok := (fun k_ => (P0_ k_ ∨ w.heap.size ≤ k_) ∧ some k_ ≠ (v316 : Value).ownBlock ∧ k_ ≠ gb307)) (by (with_reducible repeat (first | apply Kd.R_alloc | apply Kd.R_drewN | apply Kd.R_drew)); exact Kd.R_mono HO0.out (fun _ hk => ⟨⟨hk.1.1.1, ⟨hk.2, hk.1.1.2⟩⟩, hk.1.2⟩)) hg hat)
                have n1_ := Aside0.mk (blk_grown (g := gb307) (o := .cells #[.int .i64 a1_0, .string a1_1, .string a1_2] 65 (0, 0)) (by (with_reducible repeat (first | refine blk_drewN ?_ _ | refine blk_drew ?_ | refine blk_alloc ?_ _)); exact BK307.out) hg (Kd.R_away HO311.out (fun _ hk => hk.1.2)))
                have n2_ := Aside0.mk (Kd.R_after (ok := (fun k_ => (P0_ k_ ∨ w.heap.size ≤ k_) ∧ some k_ ≠ (.slice Ao11 l0.length co11 : Value).ownBlock ∧ k_ ≠ gb307)) (by (with_reducible repeat (first | apply Kd.R_alloc | apply Kd.R_drewN | apply Kd.R_drew)); exact Kd.R_mono HO317.out (fun _ hk => ⟨⟨hk.1.1.1.1, ⟨hk.1.1.2, hk.2⟩⟩, hk.1.2⟩)) hg hat)
                have n3_ := Aside0.mk (hb)
                have n4_ := Aside0.mk (Kept.of_grown (S := (fun k_ => P0_ k_)) hg (by repeat (first | (with_reducible first | exact HK.out | apply Kept.alloc | apply Kept.drewN | apply Kept.drew | refine Kept.setCell ?_ (.inr GW307.out) _) | exact HK.out)) (fun k_ e_ => (HO311.out.1 k_ e_).1.1.1.1))
                have n5_ := Aside0.mk (ho)
                clear HO0
                clear BK307
                clear HO317
                clear HB
                clear HK
                clear HO311
                have HO0 := n0_
                have BK307 := n1_
                have HO317 := n2_
                have HB := n3_
                have HK := n4_
                have HO314 := n5_
                clear n0_ n1_ n2_ n3_ n4_ n5_
                clear ho hb hg hat
                refine hK.out _ _ ⟨(blk_cell BK307.out 0).trans rfl, (blk_cell BK307.out 1).trans rfl, (blk_cell BK307.out 2).trans rfl⟩ (fun hHeld => ?_)
                clear hK K
                refine norm_ (a' := ?_) ?_ ?_
                rotate_left
                · show Act.put _ (some 13) _ = _
                  simp only [Act.put, List.setIfInBounds_toArray, List.set_cons_zero, List.set_cons_succ, i64_w, i32_w]
                  rfl
                exact norm_ (by simp only [putAll, Act.put, List.setIfInBounds_toArray, List.set_cons_zero, List.set_cons_succ]) (hCont (v310, v313, v316) _ ⟨hHeld, (by (with_reducible repeat (first | apply Kd.R_alloc | apply Kd.R_drewN | apply Kd.R_drew)); exact Kd.R_mono HO0.out (fun _ hk => ⟨hk.1.1, ⟨hk.2, ⟨hk.1.2.1, hk.1.2.2⟩⟩⟩)), (by (with_reducible repeat (first | apply Kd.R_alloc | apply Kd.R_drewN | apply Kd.R_drew)); exact HO314.out), (by (with_reducible repeat (first | apply Kd.R_alloc | apply Kd.R_drewN | apply Kd.R_drew)); exact Kd.R_mono HO317.out (fun _ hk => ⟨hk.1.1, ⟨hk.1.2.1, ⟨hk.2, hk.1.2.2⟩⟩⟩)), (by (with_reducible repeat (first | refine blk_drewN ?_ _ | refine blk_drew ?_ | refine blk_alloc ?_ _)); exact BK307.out), (by repeat (first | (with_reducible first | exact HK.out | apply Kept.alloc | apply Kept.drewN | apply Kept.drew | refine Kept.setCell ?_ (.inr GW307.out) _) | exact HK.out)), (by repeat (first | (with_reducible first | exact HB.out | apply below_alloc | apply pw_below_drewN | apply below_drew1 | refine below_set ?_ GE307.out) | exact HB.out))⟩)
            · skip
              refine Kd.R_lit_step k65 _ 65 ?hg (N := 15) ?hd (xs := ([(⟨a1_0, a1_1, a1_2⟩ : S65)] : List (S65))) (inner := [.int .i64 a1_0, .string a1_1, .string a1_2]) (ok := fun _ => True) (okp := fun _ => True) ?hr ?hp (fun _ hk => hk) trivial (Below.refl _ _) (Nat.le_refl _) (by simp) ?_; (case hd => rfl); (case hg => rfl); (case hr => first | (go_simp; done) | (go_simp; rfl)); (case hp => exact (Reps.c3 (show Kd.M k65 _ _ _ (⟨a1_0, a1_1, a1_2⟩ : S65) [.int .i64 a1_0, .string a1_1, .string a1_2] from (k65_mkM _ _ _ (⟨a1_0, a1_1, a1_2⟩ : S65) )) (Reps.none _ _)))
              intro v316 w13 ho14 hb hg_ hnew_
              clear hg_ hnew_
              (first | rw [← Ny315.out] at ho14 | (simp only [Int.reduceToNat] at ho14; rw [← Ny315.out] at ho14))
              have n0_ := Aside0.mk (Kd.R_elder' (by (with_reducible repeat (first | apply Kd.R_alloc | apply Kd.R_drewN | apply Kd.R_drew)); exact HO0.out) (Kd.R_base ho14) hb)
              have n1_ := Aside0.mk (Kd.R_lower (Kd.R_newB (Kd.R_new' (Kd.R_newM (M := fun k_ => (P0_ k_ ∨ w.heap.size ≤ k_)) ho14 (by first | exact HK.out.1 | exact (show Kept w _ (fun k_ => P0_ k_) from by repeat (first | (with_reducible first | exact HK.out | apply Kept.alloc | apply Kept.drewN | apply Kept.drew | refine Kept.setCell ?_ (.inr GW307.out) _) | exact HK.out)).1) (fun k_ h_ => .inr h_)) (Kd.R_lt (by (with_reducible repeat (first | apply Kd.R_alloc | apply Kd.R_drewN | apply Kd.R_drew)); exact HO0.out))) (g := gb307) (o := .cells #[.int .i64 a1_0, .string a1_1, .string a1_2] 65 (0, 0)) (by (with_reducible repeat (first | refine blk_drewN ?_ _ | refine blk_drew ?_ | refine blk_alloc ?_ _)); exact BK307.out)) (below_size (by repeat (first | (with_reducible first | exact HB.out | apply below_alloc | apply pw_below_drewN | apply below_drew1 | refine below_set ?_ GE307.out) | exact HB.out))))
              have n2_ := Aside0.mk (blk_below (g := gb307) (o := .cells #[.int .i64 a1_0, .string a1_1, .string a1_2] 65 (0, 0)) (by (with_reducible repeat (first | refine blk_drewN ?_ _ | refine blk_drew ?_ | refine blk_alloc ?_ _)); exact BK307.out) hb)
              have n3_ := Aside0.mk (Kept.below (S := (fun k_ => P0_ k_)) (by repeat (first | (with_reducible first | exact HK.out | apply Kept.alloc | apply Kept.drewN | apply Kept.drew | refine Kept.setCell ?_ (.inr GW307.out) _) | exact HK.out)) hb)
              have n4_ := Aside0.mk (below_step (by repeat (first | (with_reducible first | exact HB.out | apply below_alloc | apply pw_below_drewN | apply below_drew1 | refine below_set ?_ GE307.out) | exact HB.out)) hb)
              clear HO0
              clear BK307
              clear HK
              clear HB
              have HO0 := n0_
              have HO317 := n1_
              have BK307 := n2_
              have HK := n3_
              have HB := n4_
              clear n0_ n1_ n2_ n3_ n4_
              clear hb ho14
              refine hK.out _ _ ⟨(blk_cell BK307.out 0).trans rfl, (blk_cell BK307.out 1).trans rfl, (blk_cell BK307.out 2).trans rfl⟩ (fun hHeld => ?_)
              clear hK K
              refine norm_ (a' := ?_) ?_ ?_
              rotate_left
              · show Act.put _ (some 15) _ = _
                simp only [Act.put, List.setIfInBounds_toArray, List.set_cons_zero, List.set_cons_succ, i64_w, i32_w]
                rfl
              refine one_ (i := 0) (N := some 11) #[true, true, false, true, true, false, false] rfl rfl (by kernel_rfl) (by decide) (fun K hK => ?_)
              refine Kd.R_lit_step k65 _ 65 ?hg (N := 11) ?hd (xs := ([] : List (S65))) (inner := []) (ok := fun _ => True) (okp := fun _ => True) ?hr ?hp (fun _ hk => hk) trivial (Below.refl _ _) (Nat.le_refl _) (by simp) ?_; (case hd => rfl); (case hg => rfl); (case hr => first | (go_simp; done) | (go_simp; rfl)); (case hp => exact (Reps.none _ _))
              intro v310 w15 ho16 hb hg_ hnew_
              clear hg_ hnew_
              (first | rw [← Ny309.out] at ho16 | (simp only [Int.reduceToNat] at ho16; rw [← Ny309.out] at ho16))
              have n0_ := Aside0.mk (Kd.R_elder' (by (with_reducible repeat (first | apply Kd.R_alloc | apply Kd.R_drewN | apply Kd.R_drew)); exact HO0.out) (Kd.R_base ho16) hb)
              have n1_ := Aside0.mk (Kd.R_elder' (by (with_reducible repeat (first | apply Kd.R_alloc | apply Kd.R_drewN | apply Kd.R_drew)); exact HO317.out) (Kd.R_base ho16) hb)
              have n2_ := Aside0.mk (Kd.R_lower (Kd.R_newB (Kd.R_new' (Kd.R_new' (Kd.R_newM (M := fun k_ => (P0_ k_ ∨ w.heap.size ≤ k_)) ho16 (by first | exact HK.out.1 | exact (show Kept w _ (fun k_ => P0_ k_) from by repeat (first | (with_reducible first | exact HK.out | apply Kept.alloc | apply Kept.drewN | apply Kept.drew | refine Kept.setCell ?_ (.inr GW307.out) _) | exact HK.out)).1) (fun k_ h_ => .inr h_)) (Kd.R_lt (by (with_reducible repeat (first | apply Kd.R_alloc | apply Kd.R_drewN | apply Kd.R_drew)); exact HO0.out))) (Kd.R_lt (by (with_reducible repeat (first | apply Kd.R_alloc | apply Kd.R_drewN | apply Kd.R_drew)); exact HO317.out))) (g := gb307) (o := .cells #[.int .i64 a1_0, .string a1_1, .string a1_2] 65 (0, 0)) (by (with_reducible repeat (first | refine blk_drewN ?_ _ | refine blk_drew ?_ | refine blk_alloc ?_ _)); exact BK307.out)) (below_size (by repeat (first | (with_reducible first | exact HB.out | apply below_alloc | apply pw_below_drewN | apply below_drew1 | refine below_set ?_ GE307.out) | exact HB.out))))
              have n3_ := Aside0.mk (blk_below (g := gb307) (o := .cells #[.int .i64 a1_0, .string a1_1, .string a1_2] 65 (0, 0)) (by (with_reducible repeat (first | refine blk_drewN ?_ _ | refine blk_drew ?_ | refine blk_alloc ?_ _)); exact BK307.out) hb)
              have n4_ := Aside0.mk (Kept.below (S := (fun k_ => P0_ k_)) (by repeat (first | (with_reducible first | exact HK.out | apply Kept.alloc | apply Kept.drewN | apply Kept.drew | refine Kept.setCell ?_ (.inr GW307.out) _) | exact HK.out)) hb)
              have n5_ := Aside0.mk (below_step (by repeat (first | (with_reducible first | exact HB.out | apply below_alloc | apply pw_below_drewN | apply below_drew1 | refine below_set ?_ GE307.out) | exact HB.out)) hb)
              clear HO0
              clear HO317
              clear BK307
              clear HK
              clear HB
              have HO0 := n0_
              have HO317 := n1_
              have HO311 := n2_
              have BK307 := n3_
              have HK := n4_
              have HB := n5_
              clear n0_ n1_ n2_ n3_ n4_ n5_
              clear hb ho16
              refine hK.out _ _ ⟨(blk_cell BK307.out 0).trans rfl, (blk_cell BK307.out 1).trans rfl, (blk_cell BK307.out 2).trans rfl⟩ (fun hHeld => ?_)
              clear hK K
              refine norm_ (a' := ?_) ?_ ?_
              rotate_left
              · show Act.put _ (some 11) _ = _
                simp only [Act.put, List.setIfInBounds_toArray, List.set_cons_zero, List.set_cons_succ, i64_w, i32_w]
                rfl
              refine one_ (i := 2) (N := some 13) #[true, true, true, true, true, false, false] rfl rfl (by kernel_rfl) (by decide) (fun K hK => ?_)
              refine Kd.R_append_rows_step k65 (w0 := w0) w0.heap.size (by rfl) (.tmp 11) (.tmp 12) 22 65 (.agg #[(.int .i64 0), (.string ⟨#[]⟩), (.string ⟨#[]⟩)]) 40 rfl Try.underlying22 info65 rfl (by decide) (by omega) v310 y309 l0 _ _ _ (fun k_ => (P0_ k_ ∨ w.heap.size ≤ k_) ∧ some k_ ≠ (.slice Ao11 l0.length co11 : Value).ownBlock ∧ some k_ ≠ (v316 : Value).ownBlock ∧ k_ ≠ gb307) (fun _ => False) rfl rfl ?aO ?aR (fun _ _ h => h) (fun _ h => h.elim) ?aF ?aB ?aS ?aL ?_
              (case aR => repeat (first | exact (Kd.R_reads' HO0.out).2.2 | (with_reducible refine Kd.C_alloc ?_ _) | (with_reducible refine Kd.C_drewN ?_ _) | (with_reducible refine Kd.C_drew ?_)))
              (case aB => exact (by repeat (first | (with_reducible first | exact HB.out | apply below_alloc | apply pw_below_drewN | apply below_drew1 | refine below_set ?_ GE307.out) | exact HB.out)))
              (case aF => exact (fun k_ hk => ⟨(.inr (Nat.le_trans (by first | exact HK.out.1 | exact (show Kept w _ (fun k_ => P0_ k_) from by repeat (first | (with_reducible first | exact HK.out | apply Kept.alloc | apply Kept.drewN | apply Kept.drew | refine Kept.setCell ?_ (.inr GW307.out) _) | exact HK.out)).1) hk)), Kd.fresh' (Kd.R_lt (by (with_reducible repeat (first | apply Kd.R_alloc | apply Kd.R_drewN | apply Kd.R_drew)); exact HO0.out)) k_ hk, Kd.fresh' (Kd.R_lt (by (with_reducible repeat (first | apply Kd.R_alloc | apply Kd.R_drewN | apply Kd.R_drew)); exact HO317.out)) k_ hk, Kd.freshB (g := gb307) (o := .cells #[.int .i64 a1_0, .string a1_1, .string a1_2] 65 (0, 0)) (by (with_reducible repeat (first | refine blk_drewN ?_ _ | refine blk_drew ?_ | refine blk_alloc ?_ _)); exact BK307.out) k_ hk⟩))
              (case aO => exact (by (with_reducible repeat (first | apply Kd.R_alloc | apply Kd.R_drewN | apply Kd.R_drew)); exact Kd.R_mono HO311.out (fun _ hk => ⟨hk.1.1.1.1, ⟨hk.1.1.2, ⟨hk.1.2, hk.2⟩⟩⟩)))
              (case aS => exact (below_size (by repeat (first | (with_reducible first | exact HB.out | apply below_alloc | apply pw_below_drewN | apply below_drew1 | refine below_set ?_ GE307.out) | exact HB.out))))
              (case aL => have := LMc5.out; omega)
              intro v313 w17 ho hb hg hat
              rw [← Ny312.out] at ho
              have n0_ := Aside0.mk (Kd.R_after (ok := (fun k_ => (P0_ k_ ∨ w.heap.size ≤ k_) ∧ some k_ ≠ (v316 : Value).ownBlock ∧ k_ ≠ gb307)) (by (with_reducible repeat (first | apply Kd.R_alloc | apply Kd.R_drewN | apply Kd.R_drew)); exact Kd.R_mono HO0.out (fun _ hk => ⟨⟨hk.1.1.1, ⟨hk.1.2, hk.1.1.2⟩⟩, hk.2⟩)) hg hat)
              have n1_ := Aside0.mk (blk_grown (g := gb307) (o := .cells #[.int .i64 a1_0, .string a1_1, .string a1_2] 65 (0, 0)) (by (with_reducible repeat (first | refine blk_drewN ?_ _ | refine blk_drew ?_ | refine blk_alloc ?_ _)); exact BK307.out) hg (Kd.R_away HO311.out (fun _ hk => hk.2)))
              have n2_ := Aside0.mk (Kd.R_after (ok := (fun k_ => (P0_ k_ ∨ w.heap.size ≤ k_) ∧ some k_ ≠ (.slice Ao11 l0.length co11 : Value).ownBlock ∧ k_ ≠ gb307)) (by (with_reducible repeat (first | apply Kd.R_alloc | apply Kd.R_drewN | apply Kd.R_drew)); exact Kd.R_mono HO317.out (fun _ hk => ⟨⟨hk.1.1.1.1, ⟨hk.1.1.2, hk.1.2⟩⟩, hk.2⟩)) hg hat)
              have n3_ := Aside0.mk (hb)
              have n4_ := Aside0.mk (Kept.of_grown (S := (fun k_ => P0_ k_)) hg (by repeat (first | (with_reducible first | exact HK.out | apply Kept.alloc | apply Kept.drewN | apply Kept.drew | refine Kept.setCell ?_ (.inr GW307.out) _) | exact HK.out)) (fun k_ e_ => (HO311.out.1 k_ e_).1.1.1.1))
              have n5_ := Aside0.mk (ho)
              clear HO0
              clear BK307
              clear HO317
              clear HB
              clear HK
              clear HO311
              have HO0 := n0_
              have BK307 := n1_
              have HO317 := n2_
              have HB := n3_
              have HK := n4_
              have HO314 := n5_
              clear n0_ n1_ n2_ n3_ n4_ n5_
              clear ho hb hg hat
              refine hK.out _ _ ⟨(blk_cell BK307.out 0).trans rfl, (blk_cell BK307.out 1).trans rfl, (blk_cell BK307.out 2).trans rfl⟩ (fun hHeld => ?_)
              clear hK K
              refine norm_ (a' := ?_) ?_ ?_
              rotate_left
              · show Act.put _ (some 13) _ = _
                simp only [Act.put, List.setIfInBounds_toArray, List.set_cons_zero, List.set_cons_succ, i64_w, i32_w]
                rfl
              exact norm_ (by simp only [putAll, Act.put, List.setIfInBounds_toArray, List.set_cons_zero, List.set_cons_succ]) (hCont (v310, v313, v316) _ ⟨hHeld, (by (with_reducible repeat (first | apply Kd.R_alloc | apply Kd.R_drewN | apply Kd.R_drew)); exact Kd.R_mono HO0.out (fun _ hk => ⟨hk.1.1, ⟨hk.2, ⟨hk.1.2.1, hk.1.2.2⟩⟩⟩)), (by (with_reducible repeat (first | apply Kd.R_alloc | apply Kd.R_drewN | apply Kd.R_drew)); exact HO314.out), (by (with_reducible repeat (first | apply Kd.R_alloc | apply Kd.R_drewN | apply Kd.R_drew)); exact Kd.R_mono HO317.out (fun _ hk => ⟨hk.1.1, ⟨hk.1.2.1, ⟨hk.2, hk.1.2.2⟩⟩⟩)), (by (with_reducible repeat (first | refine blk_drewN ?_ _ | refine blk_drew ?_ | refine blk_alloc ?_ _)); exact BK307.out), (by repeat (first | (with_reducible first | exact HK.out | apply Kept.alloc | apply Kept.drewN | apply Kept.drew | refine Kept.setCell ?_ (.inr GW307.out) _) | exact HK.out)), (by repeat (first | (with_reducible first | exact HB.out | apply below_alloc | apply pw_below_drewN | apply below_drew1 | refine below_set ?_ GE307.out) | exact HB.out))⟩)
          rintro ⟨v310, v313, v316⟩ w18 ⟨hS_, h0_, h1_, h2_, h3_, h4_, h5_⟩
          have n0_ : Aside0 (Kd.R k65 65 w18 w0.heap.size (fun k_ => (P0_ k_ ∨ w.heap.size ≤ k_) ∧ some k_ ≠ (v313 : Value).ownBlock ∧ some k_ ≠ (v316 : Value).ownBlock ∧ k_ ≠ gb307) (.slice Ao11 l0.length co11) l0) := ⟨h0_⟩
          have n1_ : Aside0 (Kd.R k65 65 w18 w0.heap.size (fun k_ => (P0_ k_ ∨ w.heap.size ≤ k_) ∧ some k_ ≠ (.slice Ao11 l0.length co11 : Value).ownBlock ∧ some k_ ≠ (v316 : Value).ownBlock ∧ k_ ≠ gb307) v313 y312) := ⟨h1_⟩
          have n2_ : Aside0 (Kd.R k65 65 w18 w0.heap.size (fun k_ => (P0_ k_ ∨ w.heap.size ≤ k_) ∧ some k_ ≠ (.slice Ao11 l0.length co11 : Value).ownBlock ∧ some k_ ≠ (v313 : Value).ownBlock ∧ k_ ≠ gb307) v316 y315) := ⟨h2_⟩
          have n3_ : Aside0 (w18.heap[gb307]? = some (.cells #[.int .i64 a1_0, .string a1_1, .string a1_2] 65 (0, 0))) := ⟨h3_⟩
          have n4_ : Aside0 (Kept w w18 (fun k_ => P0_ k_)) := ⟨h4_⟩
          have n5_ : Aside0 (Below w0.heap.size w0 w18) := ⟨h5_⟩
          clear HO0
          clear BK307
          clear HK
          clear HB
          clear h0_ h1_ h2_ h3_ h4_ h5_
          have HO0 := n0_
          have HO314 := n1_
          have HO317 := n2_
          have BK307 := n3_
          have HK := n4_
          have HB := n5_
          clear n0_ n1_ n2_ n3_ n4_ n5_
          have hHeld : w18.cell? ⟨gb307, 0, none⟩ = some (.int .i64 a1_0) ∧ w18.cell? ⟨gb307, 1, none⟩ = some (.string a1_1) ∧ w18.cell? ⟨gb307, 2, none⟩ = some (.string a1_2) := hS_
          obtain ⟨Ao20, co20, eo20⟩ := Kd.R_slice HO317.out
          (first | subst eo20 | (injection eo20 with f1_ f2_ f3_; have f4_ := f1_.symm; have f5_ := f3_.symm; clear f1_ f2_ f3_; subst f4_; subst f5_))
          refine norm_ (a' := ?_) ?_ ?_
          rotate_left
          · simp only [putAll, Act.put, List.setIfInBounds_toArray, List.set_cons_zero, List.set_cons_succ]
            rfl
          refine one_ (i := 5) (N := some 16) #[true, true, true, true, true, true, false] rfl rfl (by kernel_rfl) (by decide) (fun K hK => ?_)
          refine Kd.R_append_rows_step k65 (w0 := w0) w0.heap.size (by rfl) (.tmp 13) (.tmp 15) 22 65 (.agg #[(.int .i64 0), (.string ⟨#[]⟩), (.string ⟨#[]⟩)]) 40 rfl Try.underlying22 info65 rfl (by decide) (by omega) v313 y312 y315 _ _ _ (fun k_ => (P0_ k_ ∨ w.heap.size ≤ k_) ∧ some k_ ≠ (.slice Ao11 l0.length co11 : Value).ownBlock ∧ some k_ ≠ (.slice Ao20 y315.length co20 : Value).ownBlock ∧ k_ ≠ gb307) (fun _ => False) rfl rfl ?aO ?aR (fun _ _ h => h) (fun _ h => h.elim) ?aF ?aB ?aS ?aL ?_
          (case aR => repeat (first | exact (Kd.R_reads' HO317.out).2.2 | (with_reducible refine Kd.C_alloc ?_ _) | (with_reducible refine Kd.C_drewN ?_ _) | (with_reducible refine Kd.C_drew ?_)))
          (case aB => exact (by repeat (first | (with_reducible first | exact HB.out | apply below_alloc | apply pw_below_drewN | apply below_drew1 | refine below_set ?_ GE307.out) | exact HB.out)))
          (case aF => exact (fun k_ hk => ⟨(.inr (Nat.le_trans (by first | exact HK.out.1 | exact (show Kept w _ (fun k_ => P0_ k_) from by repeat (first | (with_reducible first | exact HK.out | apply Kept.alloc | apply Kept.drewN | apply Kept.drew | refine Kept.setCell ?_ (.inr GW307.out) _) | exact HK.out)).1) hk)), Kd.fresh' (Kd.R_lt (by (with_reducible repeat (first | apply Kd.R_alloc | apply Kd.R_drewN | apply Kd.R_drew)); exact HO0.out)) k_ hk, Kd.fresh' (Kd.R_lt (by (with_reducible repeat (first | apply Kd.R_alloc | apply Kd.R_drewN | apply Kd.R_drew)); exact HO317.out)) k_ hk, Kd.freshB (g := gb307) (o := .cells #[.int .i64 a1_0, .string a1_1, .string a1_2] 65 (0, 0)) (by (with_reducible repeat (first | refine blk_drewN ?_ _ | refine blk_drew ?_ | refine blk_alloc ?_ _)); exact BK307.out) k_ hk⟩))
          (case aO => exact (by (with_reducible repeat (first | apply Kd.R_alloc | apply Kd.R_drewN | apply Kd.R_drew)); exact HO314.out))
          (case aS => exact (below_size (by repeat (first | (with_reducible first | exact HB.out | apply below_alloc | apply pw_below_drewN | apply below_drew1 | refine below_set ?_ GE307.out) | exact HB.out))))
          (case aL => have := LMc6.out; omega)
          intro v319 w19 ho hb hg hat
          rw [← Ny318.out] at ho
          have n0_ := Aside0.mk (Kd.R_after (ok := (fun k_ => (P0_ k_ ∨ w.heap.size ≤ k_) ∧ some k_ ≠ (.slice Ao20 y315.length co20 : Value).ownBlock ∧ k_ ≠ gb307)) (by (with_reducible repeat (first | apply Kd.R_alloc | apply Kd.R_drewN | apply Kd.R_drew)); exact Kd.R_mono HO0.out (fun _ hk => ⟨⟨hk.1, ⟨hk.2.2.1, hk.2.2.2⟩⟩, hk.2.1⟩)) hg hat)
          have n1_ := Aside0.mk (blk_grown (g := gb307) (o := .cells #[.int .i64 a1_0, .string a1_1, .string a1_2] 65 (0, 0)) (by (with_reducible repeat (first | refine blk_drewN ?_ _ | refine blk_drew ?_ | refine blk_alloc ?_ _)); exact BK307.out) hg (Kd.R_away HO314.out (fun _ hk => hk.2.2.2)))
          have n2_ := Aside0.mk (Kd.R_after (ok := (fun k_ => (P0_ k_ ∨ w.heap.size ≤ k_) ∧ some k_ ≠ (.slice Ao11 l0.length co11 : Value).ownBlock ∧ k_ ≠ gb307)) (by (with_reducible repeat (first | apply Kd.R_alloc | apply Kd.R_drewN | apply Kd.R_drew)); exact Kd.R_mono HO317.out (fun _ hk => ⟨⟨hk.1, ⟨hk.2.1, hk.2.2.2⟩⟩, hk.2.2.1⟩)) hg hat)
          have n3_ := Aside0.mk (hb)
          have n4_ := Aside0.mk (Kept.of_grown (S := (fun k_ => P0_ k_)) hg (by repeat (first | (with_reducible first | exact HK.out | apply Kept.alloc | apply Kept.drewN | apply Kept.drew | refine Kept.setCell ?_ (.inr GW307.out) _) | exact HK.out)) (fun k_ e_ => (HO314.out.1 k_ e_).1))
          have n5_ := Aside0.mk (ho)
          clear HO0
          clear BK307
          clear HO317
          clear HB
          clear HK
          clear HO314
          have HO0 := n0_
          have BK307 := n1_
          have HO317 := n2_
          have HB := n3_
          have HK := n4_
          have HO320 := n5_
          clear n0_ n1_ n2_ n3_ n4_ n5_
          clear ho hb hg hat
          refine hK.out _ _ ⟨(blk_cell BK307.out 0).trans rfl, (blk_cell BK307.out 1).trans rfl, (blk_cell BK307.out 2).trans rfl⟩ (fun hHeld => ?_)
          clear hK K
          refine norm_ (a' := ?_) ?_ ?_
          rotate_left
          · show Act.put _ (some 16) _ = _
            simp only [Act.put, List.setIfInBounds_toArray, List.set_cons_zero, List.set_cons_succ, i64_w, i32_w]
            rfl
          refine pure_ (i := 6) (N := some 6) (v := ?_) (a' := ?_) #[true, true, true, true, true, true, true] rfl rfl (by kernel_rfl) (fun _ _ _ h => h) (Or.inl ⟨by rfl, ?_⟩) ?_ ?_
          rotate_left
          · intro w'
            go_simp
            with_reducible rfl
          rotate_left
          · simp only [Act.put, List.setIfInBounds_toArray, List.set_cons_zero, List.set_cons_succ, i64_w, i32_w]
            rfl
          refine done_ (by kernel_rfl) ?_
          obtain ⟨Ao21, co21, eo21⟩ := Kd.R_slice HO320.out
          subst eo21
          try go_wp2
          go_ret2
          exact ⟨_, by first | rfl | (simp [errW_none, errW_some] <;> rfl) | (simp [*, errW_none, errW_some] <;> rfl), by (with_reducible repeat (first | apply Kd.R_alloc | apply Kd.R_drewN | apply Kd.R_drew)); exact Kd.R_mono HO0.out (fun _ hk => hk.1.1), by repeat (first | (with_reducible first | exact HB.out | apply below_alloc | apply pw_below_drewN | apply below_drew1 | refine below_set ?_ GE307.out) | exact HB.out), by repeat (first | (with_reducible first | exact HK.out | apply Kept.alloc | apply Kept.drewN | apply Kept.drew | refine Kept.setCell ?_ (.inr GW307.out) _) | exact HK.out)⟩
        · rw [if_neg c7] at H
          have c7b0 : decide (4096 < (y318.length : Int)) = false := decide_eq_false c7
          have c7b1 : decide (4096 < y318.length) = false := decide_eq_false (by omega)
          clear c7
          replace H := Option.bind_eq_some_iff.mp H
          obtain ⟨t321, A220, H⟩ := H
          replace H : (if t321 > 1048576 then (some (l0, 3)) else (some (y318, 0))) = some (r1, r2) := H
          have A22 := Aside0.mk A220
          clear A220
          by_cases c23 : t321 > 1048576
          · rw [if_pos c23] at H
            have c23b0 : decide (1048576 < t321) = true := decide_eq_true c23
            clear c23
            simp only [Option.some.injEq, Prod.mk.injEq] at H
            obtain ⟨rfl, rfl⟩ := H
            go_enter Try.func60, Try.ntmps60
            try go_wp2_with (first | ((with_reducible refine gate_dst (N := 3) rfl ?_); refine box_event ?hg (N := 3) ?hd (cs := #[.int .i64 a1_0, .string a1_1, .string a1_2]) (t := 65) ?hr ?_; (case hd => rfl); (case hg => rfl); (case hr => first | (go_simp; done) | (go_simp; rfl)); intro gb307 hg w24 hbox hb; have n0_ := Aside0.mk (Kd.R_below (Kd.R_elderB (by (with_reducible repeat (first | apply Kd.R_alloc | apply Kd.R_drewN | apply Kd.R_drew)); exact HO0.out) gb307 (Nat.le_of_eq hg.symm)) hb); have n1_ := Aside0.mk (Kept.below (S := (fun k_ => P0_ k_)) (by repeat (first | (with_reducible first | exact HK.out | apply Kept.alloc | apply Kept.drewN | apply Kept.drew) | exact HK.out)) hb); have n2_ := Aside0.mk (below_step (by repeat (first | (with_reducible first | exact HB.out | apply below_alloc | apply pw_below_drewN | apply below_drew1) | exact HB.out)) hb); have n3_ := Aside0.mk (hbox); have n4_ := Aside0.mk ((by rw [hg]; exact (by first | exact HK.out.1 | exact (show Kept w _ (fun k_ => P0_ k_) from by repeat (first | (with_reducible first | exact HK.out | apply Kept.alloc | apply Kept.drewN | apply Kept.drew) | exact HK.out)).1) : w.heap.size ≤ gb307)); have n5_ := Aside0.mk ((by rw [hg]; exact (below_size (by repeat (first | (with_reducible first | exact HB.out | apply below_alloc | apply pw_below_drewN | apply below_drew1) | exact HB.out))) : w0.heap.size ≤ gb307)); clear HO0; clear HK; clear HB; have HO0 := n0_; have HK := n1_; have HB := n2_; have BK307 := n3_; have GW307 := n4_; have GE307 := n5_; clear n0_ n1_ n2_ n3_ n4_ n5_; clear hb hbox hg; have hcz25_0 : w24.cell? ⟨gb307, 0, none⟩ = some (.int .i64 a1_0) := (blk_cell BK307.out 0).trans rfl; have hcz25_1 : w24.cell? ⟨gb307, 1, none⟩ = some (.string a1_1) := (blk_cell BK307.out 1).trans rfl; have hcz25_2 : w24.cell? ⟨gb307, 2, none⟩ = some (.string a1_2) := (blk_cell BK307.out 2).trans rfl; have hfz25_0 := blk_frozen BK307.out 0; have hfz25_1 := blk_frozen BK307.out 1; have hfz25_2 := blk_frozen BK307.out 2) | ((with_reducible refine gate_callee (f := 51) rfl ?_); refine goesL_ (some 8) rfl rfl Try.func51 (by kernel_rfl) rfl #[.agg #[.int .i64 a1_0, .string a1_1, .string a1_2]] rfl (by (try simp only [List.map_toArray, List.map_cons, List.map_nil]); first | done | rfl | (simp only [List.length_drop, List.length_take]; rfl)) ?_; (with_reducible refine (moraineref04_May.calls k a1_0 a1_1 a1_2 true _ A3.out).mono ?_); rintro e w26 ⟨rfl, hb⟩; refine ⟨_, rfl, ?_⟩; have n0_ := Aside0.mk (Kd.R_below (by (with_reducible repeat (first | apply Kd.R_alloc | apply Kd.R_drewN | apply Kd.R_drew)); exact HO0.out) hb); have n1_ := Aside0.mk (blk_below (g := gb307) (o := .cells #[.int .i64 a1_0, .string a1_1, .string a1_2] 65 (0, 0)) (by (with_reducible repeat (first | refine blk_drewN ?_ _ | refine blk_drew ?_ | refine blk_alloc ?_ _)); exact BK307.out) hb); have n2_ := Aside0.mk (Kept.below (S := (fun k_ => P0_ k_)) (by repeat (first | (with_reducible first | exact HK.out | apply Kept.alloc | apply Kept.drewN | apply Kept.drew | refine Kept.setCell ?_ (.inr GW307.out) _) | exact HK.out)) hb); have n3_ := Aside0.mk (below_step (by repeat (first | (with_reducible first | exact HB.out | apply below_alloc | apply pw_below_drewN | apply below_drew1 | refine below_set ?_ GE307.out) | exact HB.out)) hb); clear HO0; clear BK307; clear HK; clear HB; have HO0 := n0_; have BK307 := n1_; have HK := n2_; have HB := n3_; clear n0_ n1_ n2_ n3_; (try clear hb); (try clear hb2); (try clear hk); (try clear hi); obtain ⟨Ao27, co27, eo27⟩ := Kd.R_slice HO0.out; subst eo27))
            have n0_ := Aside0.mk (Kd.R_drew HO0.out)
            have n1_ := Aside0.mk (blk_drew BK307.out)
            have n2_ := Aside0.mk (Kept.drew HK.out)
            have n3_ := Aside0.mk (below_drew1 HB.out)
            clear HO0
            clear BK307
            clear HK
            clear HB
            have HO0 := n0_
            have BK307 := n1_
            have HK := n2_
            have HB := n3_
            clear n0_ n1_ n2_ n3_
            refine start_ (n := 7) (S := fun w' => w'.cell? ⟨gb307, 0, none⟩ = some (.int .i64 a1_0) ∧ w'.cell? ⟨gb307, 1, none⟩ = some (.string a1_1) ∧ w'.cell? ⟨gb307, 2, none⟩ = some (.string a1_2)) (ds := []) #[false, false, false, false, false, false, false] (by kernel_rfl) rfl rfl ⟨(blk_cell BK307.out 0).trans rfl, (blk_cell BK307.out 1).trans rfl, (blk_cell BK307.out 2).trans rfl⟩ (fun hHeld => ?_)
            generalize w26.drew = w28 at HO0 BK307 HK HB hHeld ⊢
            refine pure_ (i := 1) (N := some 12) (v := ?_) (a' := ?_) #[false, true, false, false, false, false, false] rfl rfl (by kernel_rfl) (fun _ _ _ h => h) (Or.inl ⟨by rfl, ?_⟩) ?_ ?_
            rotate_left
            · intro w'
              go_simp
              with_reducible rfl
            rotate_left
            · simp only [Act.put, List.setIfInBounds_toArray, List.set_cons_zero, List.set_cons_succ, i64_w, i32_w]
              rfl
            refine take_ (i := 3) (N := some 14) (v := ?_) (a' := ?_) #[false, true, false, true, false, false, false] rfl rfl (by kernel_rfl) (fun _ _ _ h => h) (Or.inl ⟨by rfl, ?_⟩) hHeld ?_ ?_
            rotate_left
            · rintro w' ⟨s0, s1, s2⟩
              go_simp
              with_reducible rfl
            rotate_left
            · simp only [Act.put, List.setIfInBounds_toArray, List.set_cons_zero, List.set_cons_succ, i64_w, i32_w]
              rfl
            refine join_ (σ := Value × Value × Value) 2 #[true, true, true, true, true, false, false] (fun s_ => [(11, s_.1), (13, s_.2.1), (15, s_.2.2)]) (fun s_ w' => (w'.cell? ⟨gb307, 0, none⟩ = some (.int .i64 a1_0) ∧ w'.cell? ⟨gb307, 1, none⟩ = some (.string a1_1) ∧ w'.cell? ⟨gb307, 2, none⟩ = some (.string a1_2)) ∧ (Kd.R k65 65 w' w0.heap.size (fun k_ => (P0_ k_ ∨ w.heap.size ≤ k_) ∧ some k_ ≠ (s_.2.1 : Value).ownBlock ∧ some k_ ≠ (s_.2.2 : Value).ownBlock ∧ k_ ≠ gb307) (.slice Ao27 l0.length co27) l0) ∧ (Kd.R k65 65 w' w0.heap.size (fun k_ => (P0_ k_ ∨ w.heap.size ≤ k_) ∧ some k_ ≠ (.slice Ao27 l0.length co27 : Value).ownBlock ∧ some k_ ≠ (s_.2.2 : Value).ownBlock ∧ k_ ≠ gb307) s_.2.1 y312) ∧ (Kd.R k65 65 w' w0.heap.size (fun k_ => (P0_ k_ ∨ w.heap.size ≤ k_) ∧ some k_ ≠ (.slice Ao27 l0.length co27 : Value).ownBlock ∧ some k_ ≠ (s_.2.1 : Value).ownBlock ∧ k_ ≠ gb307) s_.2.2 y315) ∧ (w'.heap[gb307]? = some (.cells #[.int .i64 a1_0, .string a1_1, .string a1_2] 65 (0, 0))) ∧ (Kept w w' (fun k_ => P0_ k_)) ∧ (Below w0.heap.size w0 w')) ?_ ?_
            rotate_left
            · intro hCont
              refine two_ (i := 0) (j := 4) (Ni := some 11) (Nj := some 15) #[true, true, false, true, false, false, false] #[false, true, false, true, true, false, false] rfl rfl rfl rfl (by kernel_rfl) (by decide) (by decide) (fun K hK => ?_) (fun K hK => ?_)
              · skip
                refine Kd.R_lit_step k65 _ 65 ?hg (N := 11) ?hd (xs := ([] : List (S65))) (inner := []) (ok := fun _ => True) (okp := fun _ => True) ?hr ?hp (fun _ hk => hk) trivial (Below.refl _ _) (Nat.le_refl _) (by simp) ?_; (case hd => rfl); (case hg => rfl); (case hr => first | (go_simp; done) | (go_simp; rfl)); (case hp => exact (Reps.none _ _))
                intro v310 w29 ho30 hb hg_ hnew_
                clear hg_ hnew_
                (first | rw [← Ny309.out] at ho30 | (simp only [Int.reduceToNat] at ho30; rw [← Ny309.out] at ho30))
                have n0_ := Aside0.mk (Kd.R_elder' (by (with_reducible repeat (first | apply Kd.R_alloc | apply Kd.R_drewN | apply Kd.R_drew)); exact HO0.out) (Kd.R_base ho30) hb)
                have n1_ := Aside0.mk (Kd.R_lower (Kd.R_newB (Kd.R_new' (Kd.R_newM (M := fun k_ => (P0_ k_ ∨ w.heap.size ≤ k_)) ho30 (by first | exact HK.out.1 | exact (show Kept w _ (fun k_ => P0_ k_) from by repeat (first | (with_reducible first | exact HK.out | apply Kept.alloc | apply Kept.drewN | apply Kept.drew | refine Kept.setCell ?_ (.inr GW307.out) _) | exact HK.out)).1) (fun k_ h_ => .inr h_)) (Kd.R_lt (by (with_reducible repeat (first | apply Kd.R_alloc | apply Kd.R_drewN | apply Kd.R_drew)); exact HO0.out))) (g := gb307) (o := .cells #[.int .i64 a1_0, .string a1_1, .string a1_2] 65 (0, 0)) (by (with_reducible repeat (first | refine blk_drewN ?_ _ | refine blk_drew ?_ | refine blk_alloc ?_ _)); exact BK307.out)) (below_size (by repeat (first | (with_reducible first | exact HB.out | apply below_alloc | apply pw_below_drewN | apply below_drew1 | refine below_set ?_ GE307.out) | exact HB.out))))
                have n2_ := Aside0.mk (blk_below (g := gb307) (o := .cells #[.int .i64 a1_0, .string a1_1, .string a1_2] 65 (0, 0)) (by (with_reducible repeat (first | refine blk_drewN ?_ _ | refine blk_drew ?_ | refine blk_alloc ?_ _)); exact BK307.out) hb)
                have n3_ := Aside0.mk (Kept.below (S := (fun k_ => P0_ k_)) (by repeat (first | (with_reducible first | exact HK.out | apply Kept.alloc | apply Kept.drewN | apply Kept.drew | refine Kept.setCell ?_ (.inr GW307.out) _) | exact HK.out)) hb)
                have n4_ := Aside0.mk (below_step (by repeat (first | (with_reducible first | exact HB.out | apply below_alloc | apply pw_below_drewN | apply below_drew1 | refine below_set ?_ GE307.out) | exact HB.out)) hb)
                clear HO0
                clear BK307
                clear HK
                clear HB
                have HO0 := n0_
                have HO311 := n1_
                have BK307 := n2_
                have HK := n3_
                have HB := n4_
                clear n0_ n1_ n2_ n3_ n4_
                clear hb ho30
                refine hK.out _ _ ⟨(blk_cell BK307.out 0).trans rfl, (blk_cell BK307.out 1).trans rfl, (blk_cell BK307.out 2).trans rfl⟩ (fun hHeld => ?_)
                clear hK K
                refine norm_ (a' := ?_) ?_ ?_
                rotate_left
                · show Act.put _ (some 11) _ = _
                  simp only [Act.put, List.setIfInBounds_toArray, List.set_cons_zero, List.set_cons_succ, i64_w, i32_w]
                  rfl
                refine two_ (i := 2) (j := 4) (Ni := some 13) (Nj := some 15) #[true, true, true, true, false, false, false] #[true, true, false, true, true, false, false] rfl rfl rfl rfl (by kernel_rfl) (by decide) (by decide) (fun K hK => ?_) (fun K hK => ?_)
                · skip
                  refine Kd.R_append_rows_step k65 (w0 := w0) w0.heap.size (by rfl) (.tmp 11) (.tmp 12) 22 65 (.agg #[(.int .i64 0), (.string ⟨#[]⟩), (.string ⟨#[]⟩)]) 40 rfl Try.underlying22 info65 rfl (by decide) (by omega) v310 y309 l0 _ _ _ (fun k_ => (P0_ k_ ∨ w.heap.size ≤ k_) ∧ some k_ ≠ (.slice Ao27 l0.length co27 : Value).ownBlock ∧ k_ ≠ gb307) (fun _ => False) rfl rfl ?aO ?aR (fun _ _ h => h) (fun _ h => h.elim) ?aF ?aB ?aS ?aL ?_
                  (case aR => repeat (first | exact (Kd.R_reads' HO0.out).2.2 | (with_reducible refine Kd.C_alloc ?_ _) | (with_reducible refine Kd.C_drewN ?_ _) | (with_reducible refine Kd.C_drew ?_)))
                  (case aB => exact (by repeat (first | (with_reducible first | exact HB.out | apply below_alloc | apply pw_below_drewN | apply below_drew1 | refine below_set ?_ GE307.out) | exact HB.out)))
                  (case aF => exact (fun k_ hk => ⟨(.inr (Nat.le_trans (by first | exact HK.out.1 | exact (show Kept w _ (fun k_ => P0_ k_) from by repeat (first | (with_reducible first | exact HK.out | apply Kept.alloc | apply Kept.drewN | apply Kept.drew | refine Kept.setCell ?_ (.inr GW307.out) _) | exact HK.out)).1) hk)), Kd.fresh' (Kd.R_lt (by (with_reducible repeat (first | apply Kd.R_alloc | apply Kd.R_drewN | apply Kd.R_drew)); exact HO0.out)) k_ hk, Kd.freshB (g := gb307) (o := .cells #[.int .i64 a1_0, .string a1_1, .string a1_2] 65 (0, 0)) (by (with_reducible repeat (first | refine blk_drewN ?_ _ | refine blk_drew ?_ | refine blk_alloc ?_ _)); exact BK307.out) k_ hk⟩))
                  (case aO => exact (by (with_reducible repeat (first | apply Kd.R_alloc | apply Kd.R_drewN | apply Kd.R_drew)); exact Kd.R_mono HO311.out (fun _ hk => ⟨hk.1.1.1, ⟨hk.1.2, hk.2⟩⟩)))
                  (case aS => exact (below_size (by repeat (first | (with_reducible first | exact HB.out | apply below_alloc | apply pw_below_drewN | apply below_drew1 | refine below_set ?_ GE307.out) | exact HB.out))))
                  (case aL => have := LMc5.out; omega)
                  intro v313 w31 ho hb hg hat
                  rw [← Ny312.out] at ho
                  have n0_ := Aside0.mk (Kd.R_after (ok := (fun k_ => (P0_ k_ ∨ w.heap.size ≤ k_) ∧ k_ ≠ gb307)) (by (with_reducible repeat (first | apply Kd.R_alloc | apply Kd.R_drewN | apply Kd.R_drew)); exact HO0.out) hg hat)
                  have n1_ := Aside0.mk (blk_grown (g := gb307) (o := .cells #[.int .i64 a1_0, .string a1_1, .string a1_2] 65 (0, 0)) (by (with_reducible repeat (first | refine blk_drewN ?_ _ | refine blk_drew ?_ | refine blk_alloc ?_ _)); exact BK307.out) hg (Kd.R_away HO311.out (fun _ hk => hk.2)))
                  have n2_ := Aside0.mk (hb)
                  have n3_ := Aside0.mk (Kept.of_grown (S := (fun k_ => P0_ k_)) hg (by repeat (first | (with_reducible first | exact HK.out | apply Kept.alloc | apply Kept.drewN | apply Kept.drew | refine Kept.setCell ?_ (.inr GW307.out) _) | exact HK.out)) (fun k_ e_ => (HO311.out.1 k_ e_).1.1.1))
                  have n4_ := Aside0.mk (ho)
                  clear HO0
                  clear BK307
                  clear HB
                  clear HK
                  clear HO311
                  have HO0 := n0_
                  have BK307 := n1_
                  have HB := n2_
                  have HK := n3_
                  have HO314 := n4_
                  clear n0_ n1_ n2_ n3_ n4_
                  clear ho hb hg hat
                  refine hK.out _ _ ⟨(blk_cell BK307.out 0).trans rfl, (blk_cell BK307.out 1).trans rfl, (blk_cell BK307.out 2).trans rfl⟩ (fun hHeld => ?_)
                  clear hK K
                  refine norm_ (a' := ?_) ?_ ?_
                  rotate_left
                  · show Act.put _ (some 13) _ = _
                    simp only [Act.put, List.setIfInBounds_toArray, List.set_cons_zero, List.set_cons_succ, i64_w, i32_w]
                    rfl
                  refine one_ (i := 4) (N := some 15) #[true, true, true, true, true, false, false] rfl rfl (by kernel_rfl) (by decide) (fun K hK => ?_)
                  refine Kd.R_lit_step k65 _ 65 ?hg (N := 15) ?hd (xs := ([(⟨a1_0, a1_1, a1_2⟩ : S65)] : List (S65))) (inner := [.int .i64 a1_0, .string a1_1, .string a1_2]) (ok := fun _ => True) (okp := fun _ => True) ?hr ?hp (fun _ hk => hk) trivial (Below.refl _ _) (Nat.le_refl _) (by simp) ?_; (case hd => rfl); (case hg => rfl); (case hr => first | (go_simp; done) | (go_simp; rfl)); (case hp => exact (Reps.c3 (show Kd.M k65 _ _ _ (⟨a1_0, a1_1, a1_2⟩ : S65) [.int .i64 a1_0, .string a1_1, .string a1_2] from (k65_mkM _ _ _ (⟨a1_0, a1_1, a1_2⟩ : S65) )) (Reps.none _ _)))
                  intro v316 w32 ho33 hb hg_ hnew_
                  clear hg_ hnew_
                  (first | rw [← Ny315.out] at ho33 | (simp only [Int.reduceToNat] at ho33; rw [← Ny315.out] at ho33))
                  have n0_ := Aside0.mk (Kd.R_elder' (by (with_reducible repeat (first | apply Kd.R_alloc | apply Kd.R_drewN | apply Kd.R_drew)); exact HO0.out) (Kd.R_base ho33) hb)
                  have n1_ := Aside0.mk (Kd.R_elder' (by (with_reducible repeat (first | apply Kd.R_alloc | apply Kd.R_drewN | apply Kd.R_drew)); exact HO314.out) (Kd.R_base ho33) hb)
                  have n2_ := Aside0.mk (Kd.R_lower (Kd.R_newB (Kd.R_new' (Kd.R_new' (Kd.R_newM (M := fun k_ => (P0_ k_ ∨ w.heap.size ≤ k_)) ho33 (by first | exact HK.out.1 | exact (show Kept w _ (fun k_ => P0_ k_) from by repeat (first | (with_reducible first | exact HK.out | apply Kept.alloc | apply Kept.drewN | apply Kept.drew | refine Kept.setCell ?_ (.inr GW307.out) _) | exact HK.out)).1) (fun k_ h_ => .inr h_)) (Kd.R_lt (by (with_reducible repeat (first | apply Kd.R_alloc | apply Kd.R_drewN | apply Kd.R_drew)); exact HO0.out))) (Kd.R_lt (by (with_reducible repeat (first | apply Kd.R_alloc | apply Kd.R_drewN | apply Kd.R_drew)); exact HO314.out))) (g := gb307) (o := .cells #[.int .i64 a1_0, .string a1_1, .string a1_2] 65 (0, 0)) (by (with_reducible repeat (first | refine blk_drewN ?_ _ | refine blk_drew ?_ | refine blk_alloc ?_ _)); exact BK307.out)) (below_size (by repeat (first | (with_reducible first | exact HB.out | apply below_alloc | apply pw_below_drewN | apply below_drew1 | refine below_set ?_ GE307.out) | exact HB.out))))
                  have n3_ := Aside0.mk (blk_below (g := gb307) (o := .cells #[.int .i64 a1_0, .string a1_1, .string a1_2] 65 (0, 0)) (by (with_reducible repeat (first | refine blk_drewN ?_ _ | refine blk_drew ?_ | refine blk_alloc ?_ _)); exact BK307.out) hb)
                  have n4_ := Aside0.mk (Kept.below (S := (fun k_ => P0_ k_)) (by repeat (first | (with_reducible first | exact HK.out | apply Kept.alloc | apply Kept.drewN | apply Kept.drew | refine Kept.setCell ?_ (.inr GW307.out) _) | exact HK.out)) hb)
                  have n5_ := Aside0.mk (below_step (by repeat (first | (with_reducible first | exact HB.out | apply below_alloc | apply pw_below_drewN | apply below_drew1 | refine below_set ?_ GE307.out) | exact HB.out)) hb)
                  clear HO0
                  clear HO314
                  clear BK307
                  clear HK
                  clear HB
                  have HO0 := n0_
                  have HO314 := n1_
                  have HO317 := n2_
                  have BK307 := n3_
                  have HK := n4_
                  have HB := n5_
                  clear n0_ n1_ n2_ n3_ n4_ n5_
                  clear hb ho33
                  refine hK.out _ _ ⟨(blk_cell BK307.out 0).trans rfl, (blk_cell BK307.out 1).trans rfl, (blk_cell BK307.out 2).trans rfl⟩ (fun hHeld => ?_)
                  clear hK K
                  refine norm_ (a' := ?_) ?_ ?_
                  rotate_left
                  · show Act.put _ (some 15) _ = _
                    simp only [Act.put, List.setIfInBounds_toArray, List.set_cons_zero, List.set_cons_succ, i64_w, i32_w]
                    rfl
                  exact norm_ (by simp only [putAll, Act.put, List.setIfInBounds_toArray, List.set_cons_zero, List.set_cons_succ]) (hCont (v310, v313, v316) _ ⟨hHeld, (by (with_reducible repeat (first | apply Kd.R_alloc | apply Kd.R_drewN | apply Kd.R_drew)); exact Kd.R_mono HO0.out (fun _ hk => ⟨hk.1.1.1, ⟨hk.1.2, ⟨hk.2, hk.1.1.2⟩⟩⟩)), (by (with_reducible repeat (first | apply Kd.R_alloc | apply Kd.R_drewN | apply Kd.R_drew)); exact Kd.R_mono HO314.out (fun _ hk => ⟨hk.1.1, ⟨hk.1.2.1, ⟨hk.2, hk.1.2.2⟩⟩⟩)), (by (with_reducible repeat (first | apply Kd.R_alloc | apply Kd.R_drewN | apply Kd.R_drew)); exact Kd.R_mono HO317.out (fun _ hk => ⟨hk.1.1.1.1, ⟨hk.1.1.2, ⟨hk.1.2, hk.2⟩⟩⟩)), (by (with_reducible repeat (first | refine blk_drewN ?_ _ | refine blk_drew ?_ | refine blk_alloc ?_ _)); exact BK307.out), (by repeat (first | (with_reducible first | exact HK.out | apply Kept.alloc | apply Kept.drewN | apply Kept.drew | refine Kept.setCell ?_ (.inr GW307.out) _) | exact HK.out)), (by repeat (first | (with_reducible first | exact HB.out | apply below_alloc | apply pw_below_drewN | apply below_drew1 | refine below_set ?_ GE307.out) | exact HB.out))⟩)
                · skip
                  refine Kd.R_lit_step k65 _ 65 ?hg (N := 15) ?hd (xs := ([(⟨a1_0, a1_1, a1_2⟩ : S65)] : List (S65))) (inner := [.int .i64 a1_0, .string a1_1, .string a1_2]) (ok := fun _ => True) (okp := fun _ => True) ?hr ?hp (fun _ hk => hk) trivial (Below.refl _ _) (Nat.le_refl _) (by simp) ?_; (case hd => rfl); (case hg => rfl); (case hr => first | (go_simp; done) | (go_simp; rfl)); (case hp => exact (Reps.c3 (show Kd.M k65 _ _ _ (⟨a1_0, a1_1, a1_2⟩ : S65) [.int .i64 a1_0, .string a1_1, .string a1_2] from (k65_mkM _ _ _ (⟨a1_0, a1_1, a1_2⟩ : S65) )) (Reps.none _ _)))
                  intro v316 w31 ho32 hb hg_ hnew_
                  clear hg_ hnew_
                  (first | rw [← Ny315.out] at ho32 | (simp only [Int.reduceToNat] at ho32; rw [← Ny315.out] at ho32))
                  have n0_ := Aside0.mk (Kd.R_elder' (by (with_reducible repeat (first | apply Kd.R_alloc | apply Kd.R_drewN | apply Kd.R_drew)); exact HO0.out) (Kd.R_base ho32) hb)
                  have n1_ := Aside0.mk (Kd.R_elder' (by (with_reducible repeat (first | apply Kd.R_alloc | apply Kd.R_drewN | apply Kd.R_drew)); exact HO311.out) (Kd.R_base ho32) hb)
                  have n2_ := Aside0.mk (Kd.R_lower (Kd.R_newB (Kd.R_new' (Kd.R_new' (Kd.R_newM (M := fun k_ => (P0_ k_ ∨ w.heap.size ≤ k_)) ho32 (by first | exact HK.out.1 | exact (show Kept w _ (fun k_ => P0_ k_) from by repeat (first | (with_reducible first | exact HK.out | apply Kept.alloc | apply Kept.drewN | apply Kept.drew | refine Kept.setCell ?_ (.inr GW307.out) _) | exact HK.out)).1) (fun k_ h_ => .inr h_)) (Kd.R_lt (by (with_reducible repeat (first | apply Kd.R_alloc | apply Kd.R_drewN | apply Kd.R_drew)); exact HO0.out))) (Kd.R_lt (by (with_reducible repeat (first | apply Kd.R_alloc | apply Kd.R_drewN | apply Kd.R_drew)); exact HO311.out))) (g := gb307) (o := .cells #[.int .i64 a1_0, .string a1_1, .string a1_2] 65 (0, 0)) (by (with_reducible repeat (first | refine blk_drewN ?_ _ | refine blk_drew ?_ | refine blk_alloc ?_ _)); exact BK307.out)) (below_size (by repeat (first | (with_reducible first | exact HB.out | apply below_alloc | apply pw_below_drewN | apply below_drew1 | refine below_set ?_ GE307.out) | exact HB.out))))
                  have n3_ := Aside0.mk (blk_below (g := gb307) (o := .cells #[.int .i64 a1_0, .string a1_1, .string a1_2] 65 (0, 0)) (by (with_reducible repeat (first | refine blk_drewN ?_ _ | refine blk_drew ?_ | refine blk_alloc ?_ _)); exact BK307.out) hb)
                  have n4_ := Aside0.mk (Kept.below (S := (fun k_ => P0_ k_)) (by repeat (first | (with_reducible first | exact HK.out | apply Kept.alloc | apply Kept.drewN | apply Kept.drew | refine Kept.setCell ?_ (.inr GW307.out) _) | exact HK.out)) hb)
                  have n5_ := Aside0.mk (below_step (by repeat (first | (with_reducible first | exact HB.out | apply below_alloc | apply pw_below_drewN | apply below_drew1 | refine below_set ?_ GE307.out) | exact HB.out)) hb)
                  clear HO0
                  clear HO311
                  clear BK307
                  clear HK
                  clear HB
                  have HO0 := n0_
                  have HO311 := n1_
                  have HO317 := n2_
                  have BK307 := n3_
                  have HK := n4_
                  have HB := n5_
                  clear n0_ n1_ n2_ n3_ n4_ n5_
                  clear hb ho32
                  refine hK.out _ _ ⟨(blk_cell BK307.out 0).trans rfl, (blk_cell BK307.out 1).trans rfl, (blk_cell BK307.out 2).trans rfl⟩ (fun hHeld => ?_)
                  clear hK K
                  refine norm_ (a' := ?_) ?_ ?_
                  rotate_left
                  · show Act.put _ (some 15) _ = _
                    simp only [Act.put, List.setIfInBounds_toArray, List.set_cons_zero, List.set_cons_succ, i64_w, i32_w]
                    rfl
                  refine one_ (i := 2) (N := some 13) #[true, true, true, true, true, false, false] rfl rfl (by kernel_rfl) (by decide) (fun K hK => ?_)
                  refine Kd.R_append_rows_step k65 (w0 := w0) w0.heap.size (by rfl) (.tmp 11) (.tmp 12) 22 65 (.agg #[(.int .i64 0), (.string ⟨#[]⟩), (.string ⟨#[]⟩)]) 40 rfl Try.underlying22 info65 rfl (by decide) (by omega) v310 y309 l0 _ _ _ (fun k_ => (P0_ k_ ∨ w.heap.size ≤ k_) ∧ some k_ ≠ (.slice Ao27 l0.length co27 : Value).ownBlock ∧ some k_ ≠ (v316 : Value).ownBlock ∧ k_ ≠ gb307) (fun _ => False) rfl rfl ?aO ?aR (fun _ _ h => h) (fun _ h => h.elim) ?aF ?aB ?aS ?aL ?_
                  (case aR => repeat (first | exact (Kd.R_reads' HO0.out).2.2 | (with_reducible refine Kd.C_alloc ?_ _) | (with_reducible refine Kd.C_drewN ?_ _) | (with_reducible refine Kd.C_drew ?_)))
                  (case aB => exact (by repeat (first | (with_reducible first | exact HB.out | apply below_alloc | apply pw_below_drewN | apply below_drew1 | refine below_set ?_ GE307.out) | exact HB.out)))
                  (case aF => exact (fun k_ hk => ⟨(.inr (Nat.le_trans (by first | exact HK.out.1 | exact (show Kept w _ (fun k_ => P0_ k_) from by repeat (first | (with_reducible first | exact HK.out | apply Kept.alloc | apply Kept.drewN | apply Kept.drew | refine Kept.setCell ?_ (.inr GW307.out) _) | exact HK.out)).1) hk)), Kd.fresh' (Kd.R_lt (by (with_reducible repeat (first | apply Kd.R_alloc | apply Kd.R_drewN | apply Kd.R_drew)); exact HO0.out)) k_ hk, Kd.fresh' (Kd.R_lt (by (with_reducible repeat (first | apply Kd.R_alloc | apply Kd.R_drewN | apply Kd.R_drew)); exact HO317.out)) k_ hk, Kd.freshB (g := gb307) (o := .cells #[.int .i64 a1_0, .string a1_1, .string a1_2] 65 (0, 0)) (by (with_reducible repeat (first | refine blk_drewN ?_ _ | refine blk_drew ?_ | refine blk_alloc ?_ _)); exact BK307.out) k_ hk⟩))
                  (case aO => exact (by (with_reducible repeat (first | apply Kd.R_alloc | apply Kd.R_drewN | apply Kd.R_drew)); exact Kd.R_mono HO311.out (fun _ hk => ⟨hk.1.1.1.1, ⟨hk.1.1.2, ⟨hk.2, hk.1.2⟩⟩⟩)))
                  (case aS => exact (below_size (by repeat (first | (with_reducible first | exact HB.out | apply below_alloc | apply pw_below_drewN | apply below_drew1 | refine below_set ?_ GE307.out) | exact HB.out))))
                  (case aL => have := LMc5.out; omega)
                  intro v313 w33 ho hb hg hat
                  rw [← Ny312.out] at ho
                  have n0_ := Aside0.mk (Kd.R_after (ok := (fun k_ => (P0_ k_ ∨ w.heap.size ≤ k_) ∧ some k_ ≠ (v316 : Value).ownBlock ∧ k_ ≠ gb307)) (by (with_reducible repeat (first | apply Kd.R_alloc | apply Kd.R_drewN | apply Kd.R_drew)); exact Kd.R_mono HO0.out (fun _ hk => ⟨⟨hk.1.1.1, ⟨hk.2, hk.1.1.2⟩⟩, hk.1.2⟩)) hg hat)
                  have n1_ := Aside0.mk (blk_grown (g := gb307) (o := .cells #[.int .i64 a1_0, .string a1_1, .string a1_2] 65 (0, 0)) (by (with_reducible repeat (first | refine blk_drewN ?_ _ | refine blk_drew ?_ | refine blk_alloc ?_ _)); exact BK307.out) hg (Kd.R_away HO311.out (fun _ hk => hk.1.2)))
                  have n2_ := Aside0.mk (Kd.R_after (ok := (fun k_ => (P0_ k_ ∨ w.heap.size ≤ k_) ∧ some k_ ≠ (.slice Ao27 l0.length co27 : Value).ownBlock ∧ k_ ≠ gb307)) (by (with_reducible repeat (first | apply Kd.R_alloc | apply Kd.R_drewN | apply Kd.R_drew)); exact Kd.R_mono HO317.out (fun _ hk => ⟨⟨hk.1.1.1.1, ⟨hk.1.1.2, hk.2⟩⟩, hk.1.2⟩)) hg hat)
                  have n3_ := Aside0.mk (hb)
                  have n4_ := Aside0.mk (Kept.of_grown (S := (fun k_ => P0_ k_)) hg (by repeat (first | (with_reducible first | exact HK.out | apply Kept.alloc | apply Kept.drewN | apply Kept.drew | refine Kept.setCell ?_ (.inr GW307.out) _) | exact HK.out)) (fun k_ e_ => (HO311.out.1 k_ e_).1.1.1.1))
                  have n5_ := Aside0.mk (ho)
                  clear HO0
                  clear BK307
                  clear HO317
                  clear HB
                  clear HK
                  clear HO311
                  have HO0 := n0_
                  have BK307 := n1_
                  have HO317 := n2_
                  have HB := n3_
                  have HK := n4_
                  have HO314 := n5_
                  clear n0_ n1_ n2_ n3_ n4_ n5_
                  clear ho hb hg hat
                  refine hK.out _ _ ⟨(blk_cell BK307.out 0).trans rfl, (blk_cell BK307.out 1).trans rfl, (blk_cell BK307.out 2).trans rfl⟩ (fun hHeld => ?_)
                  clear hK K
                  refine norm_ (a' := ?_) ?_ ?_
                  rotate_left
                  · show Act.put _ (some 13) _ = _
                    simp only [Act.put, List.setIfInBounds_toArray, List.set_cons_zero, List.set_cons_succ, i64_w, i32_w]
                    rfl
                  exact norm_ (by simp only [putAll, Act.put, List.setIfInBounds_toArray, List.set_cons_zero, List.set_cons_succ]) (hCont (v310, v313, v316) _ ⟨hHeld, (by (with_reducible repeat (first | apply Kd.R_alloc | apply Kd.R_drewN | apply Kd.R_drew)); exact Kd.R_mono HO0.out (fun _ hk => ⟨hk.1.1, ⟨hk.2, ⟨hk.1.2.1, hk.1.2.2⟩⟩⟩)), (by (with_reducible repeat (first | apply Kd.R_alloc | apply Kd.R_drewN | apply Kd.R_drew)); exact HO314.out), (by (with_reducible repeat (first | apply Kd.R_alloc | apply Kd.R_drewN | apply Kd.R_drew)); exact Kd.R_mono HO317.out (fun _ hk => ⟨hk.1.1, ⟨hk.1.2.1, ⟨hk.2, hk.1.2.2⟩⟩⟩)), (by (with_reducible repeat (first | refine blk_drewN ?_ _ | refine blk_drew ?_ | refine blk_alloc ?_ _)); exact BK307.out), (by repeat (first | (with_reducible first | exact HK.out | apply Kept.alloc | apply Kept.drewN | apply Kept.drew | refine Kept.setCell ?_ (.inr GW307.out) _) | exact HK.out)), (by repeat (first | (with_reducible first | exact HB.out | apply below_alloc | apply pw_below_drewN | apply below_drew1 | refine below_set ?_ GE307.out) | exact HB.out))⟩)
              · skip
                refine Kd.R_lit_step k65 _ 65 ?hg (N := 15) ?hd (xs := ([(⟨a1_0, a1_1, a1_2⟩ : S65)] : List (S65))) (inner := [.int .i64 a1_0, .string a1_1, .string a1_2]) (ok := fun _ => True) (okp := fun _ => True) ?hr ?hp (fun _ hk => hk) trivial (Below.refl _ _) (Nat.le_refl _) (by simp) ?_; (case hd => rfl); (case hg => rfl); (case hr => first | (go_simp; done) | (go_simp; rfl)); (case hp => exact (Reps.c3 (show Kd.M k65 _ _ _ (⟨a1_0, a1_1, a1_2⟩ : S65) [.int .i64 a1_0, .string a1_1, .string a1_2] from (k65_mkM _ _ _ (⟨a1_0, a1_1, a1_2⟩ : S65) )) (Reps.none _ _)))
                intro v316 w29 ho30 hb hg_ hnew_
                clear hg_ hnew_
                (first | rw [← Ny315.out] at ho30 | (simp only [Int.reduceToNat] at ho30; rw [← Ny315.out] at ho30))
                have n0_ := Aside0.mk (Kd.R_elder' (by (with_reducible repeat (first | apply Kd.R_alloc | apply Kd.R_drewN | apply Kd.R_drew)); exact HO0.out) (Kd.R_base ho30) hb)
                have n1_ := Aside0.mk (Kd.R_lower (Kd.R_newB (Kd.R_new' (Kd.R_newM (M := fun k_ => (P0_ k_ ∨ w.heap.size ≤ k_)) ho30 (by first | exact HK.out.1 | exact (show Kept w _ (fun k_ => P0_ k_) from by repeat (first | (with_reducible first | exact HK.out | apply Kept.alloc | apply Kept.drewN | apply Kept.drew | refine Kept.setCell ?_ (.inr GW307.out) _) | exact HK.out)).1) (fun k_ h_ => .inr h_)) (Kd.R_lt (by (with_reducible repeat (first | apply Kd.R_alloc | apply Kd.R_drewN | apply Kd.R_drew)); exact HO0.out))) (g := gb307) (o := .cells #[.int .i64 a1_0, .string a1_1, .string a1_2] 65 (0, 0)) (by (with_reducible repeat (first | refine blk_drewN ?_ _ | refine blk_drew ?_ | refine blk_alloc ?_ _)); exact BK307.out)) (below_size (by repeat (first | (with_reducible first | exact HB.out | apply below_alloc | apply pw_below_drewN | apply below_drew1 | refine below_set ?_ GE307.out) | exact HB.out))))
                have n2_ := Aside0.mk (blk_below (g := gb307) (o := .cells #[.int .i64 a1_0, .string a1_1, .string a1_2] 65 (0, 0)) (by (with_reducible repeat (first | refine blk_drewN ?_ _ | refine blk_drew ?_ | refine blk_alloc ?_ _)); exact BK307.out) hb)
                have n3_ := Aside0.mk (Kept.below (S := (fun k_ => P0_ k_)) (by repeat (first | (with_reducible first | exact HK.out | apply Kept.alloc | apply Kept.drewN | apply Kept.drew | refine Kept.setCell ?_ (.inr GW307.out) _) | exact HK.out)) hb)
                have n4_ := Aside0.mk (below_step (by repeat (first | (with_reducible first | exact HB.out | apply below_alloc | apply pw_below_drewN | apply below_drew1 | refine below_set ?_ GE307.out) | exact HB.out)) hb)
                clear HO0
                clear BK307
                clear HK
                clear HB
                have HO0 := n0_
                have HO317 := n1_
                have BK307 := n2_
                have HK := n3_
                have HB := n4_
                clear n0_ n1_ n2_ n3_ n4_
                clear hb ho30
                refine hK.out _ _ ⟨(blk_cell BK307.out 0).trans rfl, (blk_cell BK307.out 1).trans rfl, (blk_cell BK307.out 2).trans rfl⟩ (fun hHeld => ?_)
                clear hK K
                refine norm_ (a' := ?_) ?_ ?_
                rotate_left
                · show Act.put _ (some 15) _ = _
                  simp only [Act.put, List.setIfInBounds_toArray, List.set_cons_zero, List.set_cons_succ, i64_w, i32_w]
                  rfl
                refine one_ (i := 0) (N := some 11) #[true, true, false, true, true, false, false] rfl rfl (by kernel_rfl) (by decide) (fun K hK => ?_)
                refine Kd.R_lit_step k65 _ 65 ?hg (N := 11) ?hd (xs := ([] : List (S65))) (inner := []) (ok := fun _ => True) (okp := fun _ => True) ?hr ?hp (fun _ hk => hk) trivial (Below.refl _ _) (Nat.le_refl _) (by simp) ?_; (case hd => rfl); (case hg => rfl); (case hr => first | (go_simp; done) | (go_simp; rfl)); (case hp => exact (Reps.none _ _))
                intro v310 w31 ho32 hb hg_ hnew_
                clear hg_ hnew_
                (first | rw [← Ny309.out] at ho32 | (simp only [Int.reduceToNat] at ho32; rw [← Ny309.out] at ho32))
                have n0_ := Aside0.mk (Kd.R_elder' (by (with_reducible repeat (first | apply Kd.R_alloc | apply Kd.R_drewN | apply Kd.R_drew)); exact HO0.out) (Kd.R_base ho32) hb)
                have n1_ := Aside0.mk (Kd.R_elder' (by (with_reducible repeat (first | apply Kd.R_alloc | apply Kd.R_drewN | apply Kd.R_drew)); exact HO317.out) (Kd.R_base ho32) hb)
                have n2_ := Aside0.mk (Kd.R_lower (Kd.R_newB (Kd.R_new' (Kd.R_new' (Kd.R_newM (M := fun k_ => (P0_ k_ ∨ w.heap.size ≤ k_)) ho32 (by first | exact HK.out.1 | exact (show Kept w _ (fun k_ => P0_ k_) from by repeat (first | (with_reducible first | exact HK.out | apply Kept.alloc | apply Kept.drewN | apply Kept.drew | refine Kept.setCell ?_ (.inr GW307.out) _) | exact HK.out)).1) (fun k_ h_ => .inr h_)) (Kd.R_lt (by (with_reducible repeat (first | apply Kd.R_alloc | apply Kd.R_drewN | apply Kd.R_drew)); exact HO0.out))) (Kd.R_lt (by (with_reducible repeat (first | apply Kd.R_alloc | apply Kd.R_drewN | apply Kd.R_drew)); exact HO317.out))) (g := gb307) (o := .cells #[.int .i64 a1_0, .string a1_1, .string a1_2] 65 (0, 0)) (by (with_reducible repeat (first | refine blk_drewN ?_ _ | refine blk_drew ?_ | refine blk_alloc ?_ _)); exact BK307.out)) (below_size (by repeat (first | (with_reducible first | exact HB.out | apply below_alloc | apply pw_below_drewN | apply below_drew1 | refine below_set ?_ GE307.out) | exact HB.out))))
                have n3_ := Aside0.mk (blk_below (g := gb307) (o := .cells #[.int .i64 a1_0, .string a1_1, .string a1_2] 65 (0, 0)) (by (with_reducible repeat (first | refine blk_drewN ?_ _ | refine blk_drew ?_ | refine blk_alloc ?_ _)); exact BK307.out) hb)
                have n4_ := Aside0.mk (Kept.below (S := (fun k_ => P0_ k_)) (by repeat (first | (with_reducible first | exact HK.out | apply Kept.alloc | apply Kept.drewN | apply Kept.drew | refine Kept.setCell ?_ (.inr GW307.out) _) | exact HK.out)) hb)
                have n5_ := Aside0.mk (below_step (by repeat (first | (with_reducible first | exact HB.out | apply below_alloc | apply pw_below_drewN | apply below_drew1 | refine below_set ?_ GE307.out) | exact HB.out)) hb)
                clear HO0
                clear HO317
                clear BK307
                clear HK
                clear HB
                have HO0 := n0_
                have HO317 := n1_
                have HO311 := n2_
                have BK307 := n3_
                have HK := n4_
                have HB := n5_
                clear n0_ n1_ n2_ n3_ n4_ n5_
                clear hb ho32
                refine hK.out _ _ ⟨(blk_cell BK307.out 0).trans rfl, (blk_cell BK307.out 1).trans rfl, (blk_cell BK307.out 2).trans rfl⟩ (fun hHeld => ?_)
                clear hK K
                refine norm_ (a' := ?_) ?_ ?_
                rotate_left
                · show Act.put _ (some 11) _ = _
                  simp only [Act.put, List.setIfInBounds_toArray, List.set_cons_zero, List.set_cons_succ, i64_w, i32_w]
                  rfl
                refine one_ (i := 2) (N := some 13) #[true, true, true, true, true, false, false] rfl rfl (by kernel_rfl) (by decide) (fun K hK => ?_)
                refine Kd.R_append_rows_step k65 (w0 := w0) w0.heap.size (by rfl) (.tmp 11) (.tmp 12) 22 65 (.agg #[(.int .i64 0), (.string ⟨#[]⟩), (.string ⟨#[]⟩)]) 40 rfl Try.underlying22 info65 rfl (by decide) (by omega) v310 y309 l0 _ _ _ (fun k_ => (P0_ k_ ∨ w.heap.size ≤ k_) ∧ some k_ ≠ (.slice Ao27 l0.length co27 : Value).ownBlock ∧ some k_ ≠ (v316 : Value).ownBlock ∧ k_ ≠ gb307) (fun _ => False) rfl rfl ?aO ?aR (fun _ _ h => h) (fun _ h => h.elim) ?aF ?aB ?aS ?aL ?_
                (case aR => repeat (first | exact (Kd.R_reads' HO0.out).2.2 | (with_reducible refine Kd.C_alloc ?_ _) | (with_reducible refine Kd.C_drewN ?_ _) | (with_reducible refine Kd.C_drew ?_)))
                (case aB => exact (by repeat (first | (with_reducible first | exact HB.out | apply below_alloc | apply pw_below_drewN | apply below_drew1 | refine below_set ?_ GE307.out) | exact HB.out)))
                (case aF => exact (fun k_ hk => ⟨(.inr (Nat.le_trans (by first | exact HK.out.1 | exact (show Kept w _ (fun k_ => P0_ k_) from by repeat (first | (with_reducible first | exact HK.out | apply Kept.alloc | apply Kept.drewN | apply Kept.drew | refine Kept.setCell ?_ (.inr GW307.out) _) | exact HK.out)).1) hk)), Kd.fresh' (Kd.R_lt (by (with_reducible repeat (first | apply Kd.R_alloc | apply Kd.R_drewN | apply Kd.R_drew)); exact HO0.out)) k_ hk, Kd.fresh' (Kd.R_lt (by (with_reducible repeat (first | apply Kd.R_alloc | apply Kd.R_drewN | apply Kd.R_drew)); exact HO317.out)) k_ hk, Kd.freshB (g := gb307) (o := .cells #[.int .i64 a1_0, .string a1_1, .string a1_2] 65 (0, 0)) (by (with_reducible repeat (first | refine blk_drewN ?_ _ | refine blk_drew ?_ | refine blk_alloc ?_ _)); exact BK307.out) k_ hk⟩))
                (case aO => exact (by (with_reducible repeat (first | apply Kd.R_alloc | apply Kd.R_drewN | apply Kd.R_drew)); exact Kd.R_mono HO311.out (fun _ hk => ⟨hk.1.1.1.1, ⟨hk.1.1.2, ⟨hk.1.2, hk.2⟩⟩⟩)))
                (case aS => exact (below_size (by repeat (first | (with_reducible first | exact HB.out | apply below_alloc | apply pw_below_drewN | apply below_drew1 | refine below_set ?_ GE307.out) | exact HB.out))))
                (case aL => have := LMc5.out; omega)
                intro v313 w33 ho hb hg hat
                rw [← Ny312.out] at ho
                have n0_ := Aside0.mk (Kd.R_after (ok := (fun k_ => (P0_ k_ ∨ w.heap.size ≤ k_) ∧ some k_ ≠ (v316 : Value).ownBlock ∧ k_ ≠ gb307)) (by (with_reducible repeat (first | apply Kd.R_alloc | apply Kd.R_drewN | apply Kd.R_drew)); exact Kd.R_mono HO0.out (fun _ hk => ⟨⟨hk.1.1.1, ⟨hk.1.2, hk.1.1.2⟩⟩, hk.2⟩)) hg hat)
                have n1_ := Aside0.mk (blk_grown (g := gb307) (o := .cells #[.int .i64 a1_0, .string a1_1, .string a1_2] 65 (0, 0)) (by (with_reducible repeat (first | refine blk_drewN ?_ _ | refine blk_drew ?_ | refine blk_alloc ?_ _)); exact BK307.out) hg (Kd.R_away HO311.out (fun _ hk => hk.2)))
                have n2_ := Aside0.mk (Kd.R_after (ok := (fun k_ => (P0_ k_ ∨ w.heap.size ≤ k_) ∧ some k_ ≠ (.slice Ao27 l0.length co27 : Value).ownBlock ∧ k_ ≠ gb307)) (by (with_reducible repeat (first | apply Kd.R_alloc | apply Kd.R_drewN | apply Kd.R_drew)); exact Kd.R_mono HO317.out (fun _ hk => ⟨⟨hk.1.1.1.1, ⟨hk.1.1.2, hk.1.2⟩⟩, hk.2⟩)) hg hat)
                have n3_ := Aside0.mk (hb)
                have n4_ := Aside0.mk (Kept.of_grown (S := (fun k_ => P0_ k_)) hg (by repeat (first | (with_reducible first | exact HK.out | apply Kept.alloc | apply Kept.drewN | apply Kept.drew | refine Kept.setCell ?_ (.inr GW307.out) _) | exact HK.out)) (fun k_ e_ => (HO311.out.1 k_ e_).1.1.1.1))
                have n5_ := Aside0.mk (ho)
                clear HO0
                clear BK307
                clear HO317
                clear HB
                clear HK
                clear HO311
                have HO0 := n0_
                have BK307 := n1_
                have HO317 := n2_
                have HB := n3_
                have HK := n4_
                have HO314 := n5_
                clear n0_ n1_ n2_ n3_ n4_ n5_
                clear ho hb hg hat
                refine hK.out _ _ ⟨(blk_cell BK307.out 0).trans rfl, (blk_cell BK307.out 1).trans rfl, (blk_cell BK307.out 2).trans rfl⟩ (fun hHeld => ?_)
                clear hK K
                refine norm_ (a' := ?_) ?_ ?_
                rotate_left
                · show Act.put _ (some 13) _ = _
                  simp only [Act.put, List.setIfInBounds_toArray, List.set_cons_zero, List.set_cons_succ, i64_w, i32_w]
                  rfl
                exact norm_ (by simp only [putAll, Act.put, List.setIfInBounds_toArray, List.set_cons_zero, List.set_cons_succ]) (hCont (v310, v313, v316) _ ⟨hHeld, (by (with_reducible repeat (first | apply Kd.R_alloc | apply Kd.R_drewN | apply Kd.R_drew)); exact Kd.R_mono HO0.out (fun _ hk => ⟨hk.1.1, ⟨hk.2, ⟨hk.1.2.1, hk.1.2.2⟩⟩⟩)), (by (with_reducible repeat (first | apply Kd.R_alloc | apply Kd.R_drewN | apply Kd.R_drew)); exact HO314.out), (by (with_reducible repeat (first | apply Kd.R_alloc | apply Kd.R_drewN | apply Kd.R_drew)); exact Kd.R_mono HO317.out (fun _ hk => ⟨hk.1.1, ⟨hk.1.2.1, ⟨hk.2, hk.1.2.2⟩⟩⟩)), (by (with_reducible repeat (first | refine blk_drewN ?_ _ | refine blk_drew ?_ | refine blk_alloc ?_ _)); exact BK307.out), (by repeat (first | (with_reducible first | exact HK.out | apply Kept.alloc | apply Kept.drewN | apply Kept.drew | refine Kept.setCell ?_ (.inr GW307.out) _) | exact HK.out)), (by repeat (first | (with_reducible first | exact HB.out | apply below_alloc | apply pw_below_drewN | apply below_drew1 | refine below_set ?_ GE307.out) | exact HB.out))⟩)
            rintro ⟨v310, v313, v316⟩ w34 ⟨hS_, h0_, h1_, h2_, h3_, h4_, h5_⟩
            have n0_ : Aside0 (Kd.R k65 65 w34 w0.heap.size (fun k_ => (P0_ k_ ∨ w.heap.size ≤ k_) ∧ some k_ ≠ (v313 : Value).ownBlock ∧ some k_ ≠ (v316 : Value).ownBlock ∧ k_ ≠ gb307) (.slice Ao27 l0.length co27) l0) := ⟨h0_⟩
            have n1_ : Aside0 (Kd.R k65 65 w34 w0.heap.size (fun k_ => (P0_ k_ ∨ w.heap.size ≤ k_) ∧ some k_ ≠ (.slice Ao27 l0.length co27 : Value).ownBlock ∧ some k_ ≠ (v316 : Value).ownBlock ∧ k_ ≠ gb307) v313 y312) := ⟨h1_⟩
            have n2_ : Aside0 (Kd.R k65 65 w34 w0.heap.size (fun k_ => (P0_ k_ ∨ w.heap.size ≤ k_) ∧ some k_ ≠ (.slice Ao27 l0.length co27 : Value).ownBlock ∧ some k_ ≠ (v313 : Value).ownBlock ∧ k_ ≠ gb307) v316 y315) := ⟨h2_⟩
            have n3_ : Aside0 (w34.heap[gb307]? = some (.cells #[.int .i64 a1_0, .string a1_1, .string a1_2] 65 (0, 0))) := ⟨h3_⟩
            have n4_ : Aside0 (Kept w w34 (fun k_ => P0_ k_)) := ⟨h4_⟩
            have n5_ : Aside0 (Below w0.heap.size w0 w34) := ⟨h5_⟩
            clear HO0
            clear BK307
            clear HK
            clear HB
            clear h0_ h1_ h2_ h3_ h4_ h5_
            have HO0 := n0_
            have HO314 := n1_
            have HO317 := n2_
            have BK307 := n3_
            have HK := n4_
            have HB := n5_
            clear n0_ n1_ n2_ n3_ n4_ n5_
            have hHeld : w34.cell? ⟨gb307, 0, none⟩ = some (.int .i64 a1_0) ∧ w34.cell? ⟨gb307, 1, none⟩ = some (.string a1_1) ∧ w34.cell? ⟨gb307, 2, none⟩ = some (.string a1_2) := hS_
            obtain ⟨Ao36, co36, eo36⟩ := Kd.R_slice HO317.out
            (first | subst eo36 | (injection eo36 with f1_ f2_ f3_; have f4_ := f1_.symm; have f5_ := f3_.symm; clear f1_ f2_ f3_; subst f4_; subst f5_))
            refine norm_ (a' := ?_) ?_ ?_
            rotate_left
            · simp only [putAll, Act.put, List.setIfInBounds_toArray, List.set_cons_zero, List.set_cons_succ]
              rfl
            refine one_ (i := 5) (N := some 16) #[true, true, true, true, true, true, false] rfl rfl (by kernel_rfl) (by decide) (fun K hK => ?_)
            refine Kd.R_append_rows_step k65 (w0 := w0) w0.heap.size (by rfl) (.tmp 13) (.tmp 15) 22 65 (.agg #[(.int .i64 0), (.string ⟨#[]⟩), (.string ⟨#[]⟩)]) 40 rfl Try.underlying22 info65 rfl (by decide) (by omega) v313 y312 y315 _ _ _ (fun k_ => (P0_ k_ ∨ w.heap.size ≤ k_) ∧ some k_ ≠ (.slice Ao27 l0.length co27 : Value).ownBlock ∧ some k_ ≠ (.slice Ao36 y315.length co36 : Value).ownBlock ∧ k_ ≠ gb307) (fun _ => False) rfl rfl ?aO ?aR (fun _ _ h => h) (fun _ h => h.elim) ?aF ?aB ?aS ?aL ?_
            (case aR => repeat (first | exact (Kd.R_reads' HO317.out).2.2 | (with_reducible refine Kd.C_alloc ?_ _) | (with_reducible refine Kd.C_drewN ?_ _) | (with_reducible refine Kd.C_drew ?_)))
            (case aB => exact (by repeat (first | (with_reducible first | exact HB.out | apply below_alloc | apply pw_below_drewN | apply below_drew1 | refine below_set ?_ GE307.out) | exact HB.out)))
            (case aF => exact (fun k_ hk => ⟨(.inr (Nat.le_trans (by first | exact HK.out.1 | exact (show Kept w _ (fun k_ => P0_ k_) from by repeat (first | (with_reducible first | exact HK.out | apply Kept.alloc | apply Kept.drewN | apply Kept.drew | refine Kept.setCell ?_ (.inr GW307.out) _) | exact HK.out)).1) hk)), Kd.fresh' (Kd.R_lt (by (with_reducible repeat (first | apply Kd.R_alloc | apply Kd.R_drewN | apply Kd.R_drew)); exact HO0.out)) k_ hk, Kd.fresh' (Kd.R_lt (by (with_reducible repeat (first | apply Kd.R_alloc | apply Kd.R_drewN | apply Kd.R_drew)); exact HO317.out)) k_ hk, Kd.freshB (g := gb307) (o := .cells #[.int .i64 a1_0, .string a1_1, .string a1_2] 65 (0, 0)) (by (with_reducible repeat (first | refine blk_drewN ?_ _ | refine blk_drew ?_ | refine blk_alloc ?_ _)); exact BK307.out) k_ hk⟩))
            (case aO => exact (by (with_reducible repeat (first | apply Kd.R_alloc | apply Kd.R_drewN | apply Kd.R_drew)); exact HO314.out))
            (case aS => exact (below_size (by repeat (first | (with_reducible first | exact HB.out | apply below_alloc | apply pw_below_drewN | apply below_drew1 | refine below_set ?_ GE307.out) | exact HB.out))))
            (case aL => have := LMc6.out; omega)
            intro v319 w35 ho hb hg hat
            rw [← Ny318.out] at ho
            have n0_ := Aside0.mk (Kd.R_after (ok := (fun k_ => (P0_ k_ ∨ w.heap.size ≤ k_) ∧ some k_ ≠ (.slice Ao36 y315.length co36 : Value).ownBlock ∧ k_ ≠ gb307)) (by (with_reducible repeat (first | apply Kd.R_alloc | apply Kd.R_drewN | apply Kd.R_drew)); exact Kd.R_mono HO0.out (fun _ hk => ⟨⟨hk.1, ⟨hk.2.2.1, hk.2.2.2⟩⟩, hk.2.1⟩)) hg hat)
            have n1_ := Aside0.mk (blk_grown (g := gb307) (o := .cells #[.int .i64 a1_0, .string a1_1, .string a1_2] 65 (0, 0)) (by (with_reducible repeat (first | refine blk_drewN ?_ _ | refine blk_drew ?_ | refine blk_alloc ?_ _)); exact BK307.out) hg (Kd.R_away HO314.out (fun _ hk => hk.2.2.2)))
            have n2_ := Aside0.mk (Kd.R_after (ok := (fun k_ => (P0_ k_ ∨ w.heap.size ≤ k_) ∧ some k_ ≠ (.slice Ao27 l0.length co27 : Value).ownBlock ∧ k_ ≠ gb307)) (by (with_reducible repeat (first | apply Kd.R_alloc | apply Kd.R_drewN | apply Kd.R_drew)); exact Kd.R_mono HO317.out (fun _ hk => ⟨⟨hk.1, ⟨hk.2.1, hk.2.2.2⟩⟩, hk.2.2.1⟩)) hg hat)
            have n3_ := Aside0.mk (hb)
            have n4_ := Aside0.mk (Kept.of_grown (S := (fun k_ => P0_ k_)) hg (by repeat (first | (with_reducible first | exact HK.out | apply Kept.alloc | apply Kept.drewN | apply Kept.drew | refine Kept.setCell ?_ (.inr GW307.out) _) | exact HK.out)) (fun k_ e_ => (HO314.out.1 k_ e_).1))
            have n5_ := Aside0.mk (ho)
            clear HO0
            clear BK307
            clear HO317
            clear HB
            clear HK
            clear HO314
            have HO0 := n0_
            have BK307 := n1_
            have HO317 := n2_
            have HB := n3_
            have HK := n4_
            have HO320 := n5_
            clear n0_ n1_ n2_ n3_ n4_ n5_
            clear ho hb hg hat
            refine hK.out _ _ ⟨(blk_cell BK307.out 0).trans rfl, (blk_cell BK307.out 1).trans rfl, (blk_cell BK307.out 2).trans rfl⟩ (fun hHeld => ?_)
            clear hK K
            refine norm_ (a' := ?_) ?_ ?_
            rotate_left
            · show Act.put _ (some 16) _ = _
              simp only [Act.put, List.setIfInBounds_toArray, List.set_cons_zero, List.set_cons_succ, i64_w, i32_w]
              rfl
            refine pure_ (i := 6) (N := some 6) (v := ?_) (a' := ?_) #[true, true, true, true, true, true, true] rfl rfl (by kernel_rfl) (fun _ _ _ h => h) (Or.inl ⟨by rfl, ?_⟩) ?_ ?_
            rotate_left
            · intro w'
              go_simp
              with_reducible rfl
            rotate_left
            · simp only [Act.put, List.setIfInBounds_toArray, List.set_cons_zero, List.set_cons_succ, i64_w, i32_w]
              rfl
            refine done_ (by kernel_rfl) ?_
            obtain ⟨Ao37, co37, eo37⟩ := Kd.R_slice HO320.out
            subst eo37
            try go_wp2_with (first | (go_at_call 52; (with_reducible refine (moraineref04_size.calls k _ _ y318 t321 _ ?side1 ?side2 A22.out).mono ?_); (case side1 => repeat (first | exact (Kd.R_reads' HO320.out).2.2 | (with_reducible refine Kd.C_alloc ?_ _) | (with_reducible refine Kd.C_drewN ?_ _) | (with_reducible refine Kd.C_drew ?_))); (case side2 => exact (Kd.R_reads' HO320.out).2.1); rintro e w38 ⟨rfl, hb⟩; have n0_ := Aside0.mk (Kd.R_below (by (with_reducible repeat (first | apply Kd.R_alloc | apply Kd.R_drewN | apply Kd.R_drew)); exact HO0.out) hb); have n1_ := Aside0.mk (Kd.R_below (by (with_reducible repeat (first | apply Kd.R_alloc | apply Kd.R_drewN | apply Kd.R_drew)); exact HO317.out) hb); have n2_ := Aside0.mk (Kd.R_below (by (with_reducible repeat (first | apply Kd.R_alloc | apply Kd.R_drewN | apply Kd.R_drew)); exact HO320.out) hb); have n3_ := Aside0.mk (blk_below (g := gb307) (o := .cells #[.int .i64 a1_0, .string a1_1, .string a1_2] 65 (0, 0)) (by (with_reducible repeat (first | refine blk_drewN ?_ _ | refine blk_drew ?_ | refine blk_alloc ?_ _)); exact BK307.out) hb); have n4_ := Aside0.mk (Kept.below (S := (fun k_ => P0_ k_)) (by repeat (first | (with_reducible first | exact HK.out | apply Kept.alloc | apply Kept.drewN | apply Kept.drew | refine Kept.setCell ?_ (.inr GW307.out) _) | exact HK.out)) hb); have n5_ := Aside0.mk (below_step (by repeat (first | (with_reducible first | exact HB.out | apply below_alloc | apply pw_below_drewN | apply below_drew1 | refine below_set ?_ GE307.out) | exact HB.out)) hb); clear HO0; clear HO317; clear HO320; clear BK307; clear HK; clear HB; have HO0 := n0_; have HO317 := n1_; have HO320 := n2_; have BK307 := n3_; have HK := n4_; have HB := n5_; clear n0_ n1_ n2_ n3_ n4_ n5_; (try clear hb); (try clear hb2); (try clear hk); (try clear hi)))
            go_ret2
            exact ⟨_, by first | rfl | (simp [errW_none, errW_some] <;> rfl) | (simp [*, errW_none, errW_some] <;> rfl), by (with_reducible repeat (first | apply Kd.R_alloc | apply Kd.R_drewN | apply Kd.R_drew)); exact Kd.R_mono HO0.out (fun _ hk => hk.1.1), by repeat (first | (with_reducible first | exact HB.out | apply below_alloc | apply pw_below_drewN | apply below_drew1 | refine below_set ?_ GE307.out) | exact HB.out), by repeat (first | (with_reducible first | exact HK.out | apply Kept.alloc | apply Kept.drewN | apply Kept.drew | refine Kept.setCell ?_ (.inr GW307.out) _) | exact HK.out)⟩
          · rw [if_neg c23] at H
            have c23b0 : decide (1048576 < t321) = false := decide_eq_false c23
            clear c23
            simp only [Option.some.injEq, Prod.mk.injEq] at H
            obtain ⟨rfl, rfl⟩ := H
            go_enter Try.func60, Try.ntmps60
            try go_wp2_with (first | ((with_reducible refine gate_dst (N := 3) rfl ?_); refine box_event ?hg (N := 3) ?hd (cs := #[.int .i64 a1_0, .string a1_1, .string a1_2]) (t := 65) ?hr ?_; (case hd => rfl); (case hg => rfl); (case hr => first | (go_simp; done) | (go_simp; rfl)); intro gb307 hg w39 hbox hb; have n0_ := Aside0.mk (Kd.R_below (Kd.R_elderB (by (with_reducible repeat (first | apply Kd.R_alloc | apply Kd.R_drewN | apply Kd.R_drew)); exact HO0.out) gb307 (Nat.le_of_eq hg.symm)) hb); have n1_ := Aside0.mk (Kept.below (S := (fun k_ => P0_ k_)) (by repeat (first | (with_reducible first | exact HK.out | apply Kept.alloc | apply Kept.drewN | apply Kept.drew) | exact HK.out)) hb); have n2_ := Aside0.mk (below_step (by repeat (first | (with_reducible first | exact HB.out | apply below_alloc | apply pw_below_drewN | apply below_drew1) | exact HB.out)) hb); have n3_ := Aside0.mk (hbox); have n4_ := Aside0.mk ((by rw [hg]; exact (by first | exact HK.out.1 | exact (show Kept w _ (fun k_ => P0_ k_) from by repeat (first | (with_reducible first | exact HK.out | apply Kept.alloc | apply Kept.drewN | apply Kept.drew) | exact HK.out)).1) : w.heap.size ≤ gb307)); have n5_ := Aside0.mk ((by rw [hg]; exact (below_size (by repeat (first | (with_reducible first | exact HB.out | apply below_alloc | apply pw_below_drewN | apply below_drew1) | exact HB.out))) : w0.heap.size ≤ gb307)); clear HO0; clear HK; clear HB; have HO0 := n0_; have HK := n1_; have HB := n2_; have BK307 := n3_; have GW307 := n4_; have GE307 := n5_; clear n0_ n1_ n2_ n3_ n4_ n5_; clear hb hbox hg; have hcz40_0 : w39.cell? ⟨gb307, 0, none⟩ = some (.int .i64 a1_0) := (blk_cell BK307.out 0).trans rfl; have hcz40_1 : w39.cell? ⟨gb307, 1, none⟩ = some (.string a1_1) := (blk_cell BK307.out 1).trans rfl; have hcz40_2 : w39.cell? ⟨gb307, 2, none⟩ = some (.string a1_2) := (blk_cell BK307.out 2).trans rfl; have hfz40_0 := blk_frozen BK307.out 0; have hfz40_1 := blk_frozen BK307.out 1; have hfz40_2 := blk_frozen BK307.out 2) | ((with_reducible refine gate_callee (f := 51) rfl ?_); refine goesL_ (some 8) rfl rfl Try.func51 (by kernel_rfl) rfl #[.agg #[.int .i64 a1_0, .string a1_1, .string a1_2]] rfl (by (try simp only [List.map_toArray, List.map_cons, List.map_nil]); first | done | rfl | (simp only [List.length_drop, List.length_take]; rfl)) ?_; (with_reducible refine (moraineref04_May.calls k a1_0 a1_1 a1_2 true _ A3.out).mono ?_); rintro e w41 ⟨rfl, hb⟩; refine ⟨_, rfl, ?_⟩; have n0_ := Aside0.mk (Kd.R_below (by (with_reducible repeat (first | apply Kd.R_alloc | apply Kd.R_drewN | apply Kd.R_drew)); exact HO0.out) hb); have n1_ := Aside0.mk (blk_below (g := gb307) (o := .cells #[.int .i64 a1_0, .string a1_1, .string a1_2] 65 (0, 0)) (by (with_reducible repeat (first | refine blk_drewN ?_ _ | refine blk_drew ?_ | refine blk_alloc ?_ _)); exact BK307.out) hb); have n2_ := Aside0.mk (Kept.below (S := (fun k_ => P0_ k_)) (by repeat (first | (with_reducible first | exact HK.out | apply Kept.alloc | apply Kept.drewN | apply Kept.drew | refine Kept.setCell ?_ (.inr GW307.out) _) | exact HK.out)) hb); have n3_ := Aside0.mk (below_step (by repeat (first | (with_reducible first | exact HB.out | apply below_alloc | apply pw_below_drewN | apply below_drew1 | refine below_set ?_ GE307.out) | exact HB.out)) hb); clear HO0; clear BK307; clear HK; clear HB; have HO0 := n0_; have BK307 := n1_; have HK := n2_; have HB := n3_; clear n0_ n1_ n2_ n3_; (try clear hb); (try clear hb2); (try clear hk); (try clear hi); obtain ⟨Ao42, co42, eo42⟩ := Kd.R_slice HO0.out; subst eo42))
            have n0_ := Aside0.mk (Kd.R_drew HO0.out)
            have n1_ := Aside0.mk (blk_drew BK307.out)
            have n2_ := Aside0.mk (Kept.drew HK.out)
            have n3_ := Aside0.mk (below_drew1 HB.out)
            clear HO0
            clear BK307
            clear HK
            clear HB
            have HO0 := n0_
            have BK307 := n1_
            have HK := n2_
            have HB := n3_
            clear n0_ n1_ n2_ n3_
            refine start_ (n := 7) (S := fun w' => w'.cell? ⟨gb307, 0, none⟩ = some (.int .i64 a1_0) ∧ w'.cell? ⟨gb307, 1, none⟩ = some (.string a1_1) ∧ w'.cell? ⟨gb307, 2, none⟩ = some (.string a1_2)) (ds := []) #[false, false, false, false, false, false, false] (by kernel_rfl) rfl rfl ⟨(blk_cell BK307.out 0).trans rfl, (blk_cell BK307.out 1).trans rfl, (blk_cell BK307.out 2).trans rfl⟩ (fun hHeld => ?_)
            generalize w41.drew = w43 at HO0 BK307 HK HB hHeld ⊢
            refine pure_ (i := 1) (N := some 12) (v := ?_) (a' := ?_) #[false, true, false, false, false, false, false] rfl rfl (by kernel_rfl) (fun _ _ _ h => h) (Or.inl ⟨by rfl, ?_⟩) ?_ ?_
            rotate_left
            · intro w'
              go_simp
              with_reducible rfl
            rotate_left
            · simp only [Act.put, List.setIfInBounds_toArray, List.set_cons_zero, List.set_cons_succ, i64_w, i32_w]
              rfl
            refine take_ (i := 3) (N := some 14) (v := ?_) (a' := ?_) #[false, true, false, true, false, false, false] rfl rfl (by kernel_rfl) (fun _ _ _ h => h) (Or.inl ⟨by rfl, ?_⟩) hHeld ?_ ?_
            rotate_left
            · rintro w' ⟨s0, s1, s2⟩
              go_simp
              with_reducible rfl
            rotate_left
            · simp only [Act.put, List.setIfInBounds_toArray, List.set_cons_zero, List.set_cons_succ, i64_w, i32_w]
              rfl
            refine join_ (σ := Value × Value × Value) 2 #[true, true, true, true, true, false, false] (fun s_ => [(11, s_.1), (13, s_.2.1), (15, s_.2.2)]) (fun s_ w' => (w'.cell? ⟨gb307, 0, none⟩ = some (.int .i64 a1_0) ∧ w'.cell? ⟨gb307, 1, none⟩ = some (.string a1_1) ∧ w'.cell? ⟨gb307, 2, none⟩ = some (.string a1_2)) ∧ (Kd.R k65 65 w' w0.heap.size (fun k_ => (P0_ k_ ∨ w.heap.size ≤ k_) ∧ some k_ ≠ (s_.2.1 : Value).ownBlock ∧ some k_ ≠ (s_.2.2 : Value).ownBlock ∧ k_ ≠ gb307) (.slice Ao42 l0.length co42) l0) ∧ (Kd.R k65 65 w' w0.heap.size (fun k_ => (P0_ k_ ∨ w.heap.size ≤ k_) ∧ some k_ ≠ (.slice Ao42 l0.length co42 : Value).ownBlock ∧ some k_ ≠ (s_.2.2 : Value).ownBlock ∧ k_ ≠ gb307) s_.2.1 y312) ∧ (Kd.R k65 65 w' w0.heap.size (fun k_ => (P0_ k_ ∨ w.heap.size ≤ k_) ∧ some k_ ≠ (.slice Ao42 l0.length co42 : Value).ownBlock ∧ some k_ ≠ (s_.2.1 : Value).ownBlock ∧ k_ ≠ gb307) s_.2.2 y315) ∧ (w'.heap[gb307]? = some (.cells #[.int .i64 a1_0, .string a1_1, .string a1_2] 65 (0, 0))) ∧ (Kept w w' (fun k_ => P0_ k_)) ∧ (Below w0.heap.size w0 w')) ?_ ?_
            rotate_left
            · intro hCont
              refine two_ (i := 0) (j := 4) (Ni := some 11) (Nj := some 15) #[true, true, false, true, false, false, false] #[false, true, false, true, true, false, false] rfl rfl rfl rfl (by kernel_rfl) (by decide) (by decide) (fun K hK => ?_) (fun K hK => ?_)
              · skip
                refine Kd.R_lit_step k65 _ 65 ?hg (N := 11) ?hd (xs := ([] : List (S65))) (inner := []) (ok := fun _ => True) (okp := fun _ => True) ?hr ?hp (fun _ hk => hk) trivial (Below.refl _ _) (Nat.le_refl _) (by simp) ?_; (case hd => rfl); (case hg => rfl); (case hr => first | (go_simp; done) | (go_simp; rfl)); (case hp => exact (Reps.none _ _))
                intro v310 w44 ho45 hb hg_ hnew_
                clear hg_ hnew_
                (first | rw [← Ny309.out] at ho45 | (simp only [Int.reduceToNat] at ho45; rw [← Ny309.out] at ho45))
                have n0_ := Aside0.mk (Kd.R_elder' (by (with_reducible repeat (first | apply Kd.R_alloc | apply Kd.R_drewN | apply Kd.R_drew)); exact HO0.out) (Kd.R_base ho45) hb)
                have n1_ := Aside0.mk (Kd.R_lower (Kd.R_newB (Kd.R_new' (Kd.R_newM (M := fun k_ => (P0_ k_ ∨ w.heap.size ≤ k_)) ho45 (by first | exact HK.out.1 | exact (show Kept w _ (fun k_ => P0_ k_) from by repeat (first | (with_reducible first | exact HK.out | apply Kept.alloc | apply Kept.drewN | apply Kept.drew | refine Kept.setCell ?_ (.inr GW307.out) _) | exact HK.out)).1) (fun k_ h_ => .inr h_)) (Kd.R_lt (by (with_reducible repeat (first | apply Kd.R_alloc | apply Kd.R_drewN | apply Kd.R_drew)); exact HO0.out))) (g := gb307) (o := .cells #[.int .i64 a1_0, .string a1_1, .string a1_2] 65 (0, 0)) (by (with_reducible repeat (first | refine blk_drewN ?_ _ | refine blk_drew ?_ | refine blk_alloc ?_ _)); exact BK307.out)) (below_size (by repeat (first | (with_reducible first | exact HB.out | apply below_alloc | apply pw_below_drewN | apply below_drew1 | refine below_set ?_ GE307.out) | exact HB.out))))
                have n2_ := Aside0.mk (blk_below (g := gb307) (o := .cells #[.int .i64 a1_0, .string a1_1, .string a1_2] 65 (0, 0)) (by (with_reducible repeat (first | refine blk_drewN ?_ _ | refine blk_drew ?_ | refine blk_alloc ?_ _)); exact BK307.out) hb)
                have n3_ := Aside0.mk (Kept.below (S := (fun k_ => P0_ k_)) (by repeat (first | (with_reducible first | exact HK.out | apply Kept.alloc | apply Kept.drewN | apply Kept.drew | refine Kept.setCell ?_ (.inr GW307.out) _) | exact HK.out)) hb)
                have n4_ := Aside0.mk (below_step (by repeat (first | (with_reducible first | exact HB.out | apply below_alloc | apply pw_below_drewN | apply below_drew1 | refine below_set ?_ GE307.out) | exact HB.out)) hb)
                clear HO0
                clear BK307
                clear HK
                clear HB
                have HO0 := n0_
                have HO311 := n1_
                have BK307 := n2_
                have HK := n3_
                have HB := n4_
                clear n0_ n1_ n2_ n3_ n4_
                clear hb ho45
                refine hK.out _ _ ⟨(blk_cell BK307.out 0).trans rfl, (blk_cell BK307.out 1).trans rfl, (blk_cell BK307.out 2).trans rfl⟩ (fun hHeld => ?_)
                clear hK K
                refine norm_ (a' := ?_) ?_ ?_
                rotate_left
                · show Act.put _ (some 11) _ = _
                  simp only [Act.put, List.setIfInBounds_toArray, List.set_cons_zero, List.set_cons_succ, i64_w, i32_w]
                  rfl
                refine two_ (i := 2) (j := 4) (Ni := some 13) (Nj := some 15) #[true, true, true, true, false, false, false] #[true, true, false, true, true, false, false] rfl rfl rfl rfl (by kernel_rfl) (by decide) (by decide) (fun K hK => ?_) (fun K hK => ?_)
                · skip
                  refine Kd.R_append_rows_step k65 (w0 := w0) w0.heap.size (by rfl) (.tmp 11) (.tmp 12) 22 65 (.agg #[(.int .i64 0), (.string ⟨#[]⟩), (.string ⟨#[]⟩)]) 40 rfl Try.underlying22 info65 rfl (by decide) (by omega) v310 y309 l0 _ _ _ (fun k_ => (P0_ k_ ∨ w.heap.size ≤ k_) ∧ some k_ ≠ (.slice Ao42 l0.length co42 : Value).ownBlock ∧ k_ ≠ gb307) (fun _ => False) rfl rfl ?aO ?aR (fun _ _ h => h) (fun _ h => h.elim) ?aF ?aB ?aS ?aL ?_
                  (case aR => repeat (first | exact (Kd.R_reads' HO0.out).2.2 | (with_reducible refine Kd.C_alloc ?_ _) | (with_reducible refine Kd.C_drewN ?_ _) | (with_reducible refine Kd.C_drew ?_)))
                  (case aB => exact (by repeat (first | (with_reducible first | exact HB.out | apply below_alloc | apply pw_below_drewN | apply below_drew1 | refine below_set ?_ GE307.out) | exact HB.out)))
                  (case aF => exact (fun k_ hk => ⟨(.inr (Nat.le_trans (by first | exact HK.out.1 | exact (show Kept w _ (fun k_ => P0_ k_) from by repeat (first | (with_reducible first | exact HK.out | apply Kept.alloc | apply Kept.drewN | apply Kept.drew | refine Kept.setCell ?_ (.inr GW307.out) _) | exact HK.out)).1) hk)), Kd.fresh' (Kd.R_lt (by (with_reducible repeat (first | apply Kd.R_alloc | apply Kd.R_drewN | apply Kd.R_drew)); exact HO0.out)) k_ hk, Kd.freshB (g := gb307) (o := .cells #[.int .i64 a1_0, .string a1_1, .string a1_2] 65 (0, 0)) (by (with_reducible repeat (first | refine blk_drewN ?_ _ | refine blk_drew ?_ | refine blk_alloc ?_ _)); exact BK307.out) k_ hk⟩))
                  (case aO => exact (by (with_reducible repeat (first | apply Kd.R_alloc | apply Kd.R_drewN | apply Kd.R_drew)); exact Kd.R_mono HO311.out (fun _ hk => ⟨hk.1.1.1, ⟨hk.1.2, hk.2⟩⟩)))
                  (case aS => exact (below_size (by repeat (first | (with_reducible first | exact HB.out | apply below_alloc | apply pw_below_drewN | apply below_drew1 | refine below_set ?_ GE307.out) | exact HB.out))))
                  (case aL => have := LMc5.out; omega)
                  intro v313 w46 ho hb hg hat
                  rw [← Ny312.out] at ho
                  have n0_ := Aside0.mk (Kd.R_after (ok := (fun k_ => (P0_ k_ ∨ w.heap.size ≤ k_) ∧ k_ ≠ gb307)) (by (with_reducible repeat (first | apply Kd.R_alloc | apply Kd.R_drewN | apply Kd.R_drew)); exact HO0.out) hg hat)
                  have n1_ := Aside0.mk (blk_grown (g := gb307) (o := .cells #[.int .i64 a1_0, .string a1_1, .string a1_2] 65 (0, 0)) (by (with_reducible repeat (first | refine blk_drewN ?_ _ | refine blk_drew ?_ | refine blk_alloc ?_ _)); exact BK307.out) hg (Kd.R_away HO311.out (fun _ hk => hk.2)))
                  have n2_ := Aside0.mk (hb)
                  have n3_ := Aside0.mk (Kept.of_grown (S := (fun k_ => P0_ k_)) hg (by repeat (first | (with_reducible first | exact HK.out | apply Kept.alloc | apply Kept.drewN | apply Kept.drew | refine Kept.setCell ?_ (.inr GW307.out) _) | exact HK.out)) (fun k_ e_ => (HO311.out.1 k_ e_).1.1.1))
                  have n4_ := Aside0.mk (ho)
                  clear HO0
                  clear BK307
                  clear HB
                  clear HK
                  clear HO311
                  have HO0 := n0_
                  have BK307 := n1_
                  have HB := n2_
                  have HK := n3_
                  have HO314 := n4_
                  clear n0_ n1_ n2_ n3_ n4_
                  clear ho hb hg hat
                  refine hK.out _ _ ⟨(blk_cell BK307.out 0).trans rfl, (blk_cell BK307.out 1).trans rfl, (blk_cell BK307.out 2).trans rfl⟩ (fun hHeld => ?_)
                  clear hK K
                  refine norm_ (a' := ?_) ?_ ?_
                  rotate_left
                  · show Act.put _ (some 13) _ = _
                    simp only [Act.put, List.setIfInBounds_toArray, List.set_cons_zero, List.set_cons_succ, i64_w, i32_w]
                    rfl
                  refine one_ (i := 4) (N := some 15) #[true, true, true, true, true, false, false] rfl rfl (by kernel_rfl) (by decide) (fun K hK => ?_)
                  refine Kd.R_lit_step k65 _ 65 ?hg (N := 15) ?hd (xs := ([(⟨a1_0, a1_1, a1_2⟩ : S65)] : List (S65))) (inner := [.int .i64 a1_0, .string a1_1, .string a1_2]) (ok := fun _ => True) (okp := fun _ => True) ?hr ?hp (fun _ hk => hk) trivial (Below.refl _ _) (Nat.le_refl _) (by simp) ?_; (case hd => rfl); (case hg => rfl); (case hr => first | (go_simp; done) | (go_simp; rfl)); (case hp => exact (Reps.c3 (show Kd.M k65 _ _ _ (⟨a1_0, a1_1, a1_2⟩ : S65) [.int .i64 a1_0, .string a1_1, .string a1_2] from (k65_mkM _ _ _ (⟨a1_0, a1_1, a1_2⟩ : S65) )) (Reps.none _ _)))
                  intro v316 w47 ho48 hb hg_ hnew_
                  clear hg_ hnew_
                  (first | rw [← Ny315.out] at ho48 | (simp only [Int.reduceToNat] at ho48; rw [← Ny315.out] at ho48))
                  have n0_ := Aside0.mk (Kd.R_elder' (by (with_reducible repeat (first | apply Kd.R_alloc | apply Kd.R_drewN | apply Kd.R_drew)); exact HO0.out) (Kd.R_base ho48) hb)
                  have n1_ := Aside0.mk (Kd.R_elder' (by (with_reducible repeat (first | apply Kd.R_alloc | apply Kd.R_drewN | apply Kd.R_drew)); exact HO314.out) (Kd.R_base ho48) hb)
                  have n2_ := Aside0.mk (Kd.R_lower (Kd.R_newB (Kd.R_new' (Kd.R_new' (Kd.R_newM (M := fun k_ => (P0_ k_ ∨ w.heap.size ≤ k_)) ho48 (by first | exact HK.out.1 | exact (show Kept w _ (fun k_ => P0_ k_) from by repeat (first | (with_reducible first | exact HK.out | apply Kept.alloc | apply Kept.drewN | apply Kept.drew | refine Kept.setCell ?_ (.inr GW307.out) _) | exact HK.out)).1) (fun k_ h_ => .inr h_)) (Kd.R_lt (by (with_reducible repeat (first | apply Kd.R_alloc | apply Kd.R_drewN | apply Kd.R_drew)); exact HO0.out))) (Kd.R_lt (by (with_reducible repeat (first | apply Kd.R_alloc | apply Kd.R_drewN | apply Kd.R_drew)); exact HO314.out))) (g := gb307) (o := .cells #[.int .i64 a1_0, .string a1_1, .string a1_2] 65 (0, 0)) (by (with_reducible repeat (first | refine blk_drewN ?_ _ | refine blk_drew ?_ | refine blk_alloc ?_ _)); exact BK307.out)) (below_size (by repeat (first | (with_reducible first | exact HB.out | apply below_alloc | apply pw_below_drewN | apply below_drew1 | refine below_set ?_ GE307.out) | exact HB.out))))
                  have n3_ := Aside0.mk (blk_below (g := gb307) (o := .cells #[.int .i64 a1_0, .string a1_1, .string a1_2] 65 (0, 0)) (by (with_reducible repeat (first | refine blk_drewN ?_ _ | refine blk_drew ?_ | refine blk_alloc ?_ _)); exact BK307.out) hb)
                  have n4_ := Aside0.mk (Kept.below (S := (fun k_ => P0_ k_)) (by repeat (first | (with_reducible first | exact HK.out | apply Kept.alloc | apply Kept.drewN | apply Kept.drew | refine Kept.setCell ?_ (.inr GW307.out) _) | exact HK.out)) hb)
                  have n5_ := Aside0.mk (below_step (by repeat (first | (with_reducible first | exact HB.out | apply below_alloc | apply pw_below_drewN | apply below_drew1 | refine below_set ?_ GE307.out) | exact HB.out)) hb)
                  clear HO0
                  clear HO314
                  clear BK307
                  clear HK
                  clear HB
                  have HO0 := n0_
                  have HO314 := n1_
                  have HO317 := n2_
                  have BK307 := n3_
                  have HK := n4_
                  have HB := n5_
                  clear n0_ n1_ n2_ n3_ n4_ n5_
                  clear hb ho48
                  refine hK.out _ _ ⟨(blk_cell BK307.out 0).trans rfl, (blk_cell BK307.out 1).trans rfl, (blk_cell BK307.out 2).trans rfl⟩ (fun hHeld => ?_)
                  clear hK K
                  refine norm_ (a' := ?_) ?_ ?_
                  rotate_left
                  · show Act.put _ (some 15) _ = _
                    simp only [Act.put, List.setIfInBounds_toArray, List.set_cons_zero, List.set_cons_succ, i64_w, i32_w]
                    rfl
                  exact norm_ (by simp only [putAll, Act.put, List.setIfInBounds_toArray, List.set_cons_zero, List.set_cons_succ]) (hCont (v310, v313, v316) _ ⟨hHeld, (by (with_reducible repeat (first | apply Kd.R_alloc | apply Kd.R_drewN | apply Kd.R_drew)); exact Kd.R_mono HO0.out (fun _ hk => ⟨hk.1.1.1, ⟨hk.1.2, ⟨hk.2, hk.1.1.2⟩⟩⟩)), (by (with_reducible repeat (first | apply Kd.R_alloc | apply Kd.R_drewN | apply Kd.R_drew)); exact Kd.R_mono HO314.out (fun _ hk => ⟨hk.1.1, ⟨hk.1.2.1, ⟨hk.2, hk.1.2.2⟩⟩⟩)), (by (with_reducible repeat (first | apply Kd.R_alloc | apply Kd.R_drewN | apply Kd.R_drew)); exact Kd.R_mono HO317.out (fun _ hk => ⟨hk.1.1.1.1, ⟨hk.1.1.2, ⟨hk.1.2, hk.2⟩⟩⟩)), (by (with_reducible repeat (first | refine blk_drewN ?_ _ | refine blk_drew ?_ | refine blk_alloc ?_ _)); exact BK307.out), (by repeat (first | (with_reducible first | exact HK.out | apply Kept.alloc | apply Kept.drewN | apply Kept.drew | refine Kept.setCell ?_ (.inr GW307.out) _) | exact HK.out)), (by repeat (first | (with_reducible first | exact HB.out | apply below_alloc | apply pw_below_drewN | apply below_drew1 | refine below_set ?_ GE307.out) | exact HB.out))⟩)
                · skip
                  refine Kd.R_lit_step k65 _ 65 ?hg (N := 15) ?hd (xs := ([(⟨a1_0, a1_1, a1_2⟩ : S65)] : List (S65))) (inner := [.int .i64 a1_0, .string a1_1, .string a1_2]) (ok := fun _ => True) (okp := fun _ => True) ?hr ?hp (fun _ hk => hk) trivial (Below.refl _ _) (Nat.le_refl _) (by simp) ?_; (case hd => rfl); (case hg => rfl); (case hr => first | (go_simp; done) | (go_simp; rfl)); (case hp => exact (Reps.c3 (show Kd.M k65 _ _ _ (⟨a1_0, a1_1, a1_2⟩ : S65) [.int .i64 a1_0, .string a1_1, .string a1_2] from (k65_mkM _ _ _ (⟨a1_0, a1_1, a1_2⟩ : S65) )) (Reps.none _ _)))
                  intro v316 w46 ho47 hb hg_ hnew_
                  clear hg_ hnew_
                  (first | rw [← Ny315.out] at ho47 | (simp only [Int.reduceToNat] at ho47; rw [← Ny315.out] at ho47))
                  have n0_ := Aside0.mk (Kd.R_elder' (by (with_reducible repeat (first | apply Kd.R_alloc | apply Kd.R_drewN | apply Kd.R_drew)); exact HO0.out) (Kd.R_base ho47) hb)
                  have n1_ := Aside0.mk (Kd.R_elder' (by (with_reducible repeat (first | apply Kd.R_alloc | apply Kd.R_drewN | apply Kd.R_drew)); exact HO311.out) (Kd.R_base ho47) hb)
                  have n2_ := Aside0.mk (Kd.R_lower (Kd.R_newB (Kd.R_new' (Kd.R_new' (Kd.R_newM (M := fun k_ => (P0_ k_ ∨ w.heap.size ≤ k_)) ho47 (by first | exact HK.out.1 | exact (show Kept w _ (fun k_ => P0_ k_) from by repeat (first | (with_reducible first | exact HK.out | apply Kept.alloc | apply Kept.drewN | apply Kept.drew | refine Kept.setCell ?_ (.inr GW307.out) _) | exact HK.out)).1) (fun k_ h_ => .inr h_)) (Kd.R_lt (by (with_reducible repeat (first | apply Kd.R_alloc | apply Kd.R_drewN | apply Kd.R_drew)); exact HO0.out))) (Kd.R_lt (by (with_reducible repeat (first | apply Kd.R_alloc | apply Kd.R_drewN | apply Kd.R_drew)); exact HO311.out))) (g := gb307) (o := .cells #[.int .i64 a1_0, .string a1_1, .string a1_2] 65 (0, 0)) (by (with_reducible repeat (first | refine blk_drewN ?_ _ | refine blk_drew ?_ | refine blk_alloc ?_ _)); exact BK307.out)) (below_size (by repeat (first | (with_reducible first | exact HB.out | apply below_alloc | apply pw_below_drewN | apply below_drew1 | refine below_set ?_ GE307.out) | exact HB.out))))
                  have n3_ := Aside0.mk (blk_below (g := gb307) (o := .cells #[.int .i64 a1_0, .string a1_1, .string a1_2] 65 (0, 0)) (by (with_reducible repeat (first | refine blk_drewN ?_ _ | refine blk_drew ?_ | refine blk_alloc ?_ _)); exact BK307.out) hb)
                  have n4_ := Aside0.mk (Kept.below (S := (fun k_ => P0_ k_)) (by repeat (first | (with_reducible first | exact HK.out | apply Kept.alloc | apply Kept.drewN | apply Kept.drew | refine Kept.setCell ?_ (.inr GW307.out) _) | exact HK.out)) hb)
                  have n5_ := Aside0.mk (below_step (by repeat (first | (with_reducible first | exact HB.out | apply below_alloc | apply pw_below_drewN | apply below_drew1 | refine below_set ?_ GE307.out) | exact HB.out)) hb)
                  clear HO0
                  clear HO311
                  clear BK307
                  clear HK
                  clear HB
                  have HO0 := n0_
                  have HO311 := n1_
                  have HO317 := n2_
                  have BK307 := n3_
                  have HK := n4_
                  have HB := n5_
                  clear n0_ n1_ n2_ n3_ n4_ n5_
                  clear hb ho47
                  refine hK.out _ _ ⟨(blk_cell BK307.out 0).trans rfl, (blk_cell BK307.out 1).trans rfl, (blk_cell BK307.out 2).trans rfl⟩ (fun hHeld => ?_)
                  clear hK K
                  refine norm_ (a' := ?_) ?_ ?_
                  rotate_left
                  · show Act.put _ (some 15) _ = _
                    simp only [Act.put, List.setIfInBounds_toArray, List.set_cons_zero, List.set_cons_succ, i64_w, i32_w]
                    rfl
                  refine one_ (i := 2) (N := some 13) #[true, true, true, true, true, false, false] rfl rfl (by kernel_rfl) (by decide) (fun K hK => ?_)
                  refine Kd.R_append_rows_step k65 (w0 := w0) w0.heap.size (by rfl) (.tmp 11) (.tmp 12) 22 65 (.agg #[(.int .i64 0), (.string ⟨#[]⟩), (.string ⟨#[]⟩)]) 40 rfl Try.underlying22 info65 rfl (by decide) (by omega) v310 y309 l0 _ _ _ (fun k_ => (P0_ k_ ∨ w.heap.size ≤ k_) ∧ some k_ ≠ (.slice Ao42 l0.length co42 : Value).ownBlock ∧ some k_ ≠ (v316 : Value).ownBlock ∧ k_ ≠ gb307) (fun _ => False) rfl rfl ?aO ?aR (fun _ _ h => h) (fun _ h => h.elim) ?aF ?aB ?aS ?aL ?_
                  (case aR => repeat (first | exact (Kd.R_reads' HO0.out).2.2 | (with_reducible refine Kd.C_alloc ?_ _) | (with_reducible refine Kd.C_drewN ?_ _) | (with_reducible refine Kd.C_drew ?_)))
                  (case aB => exact (by repeat (first | (with_reducible first | exact HB.out | apply below_alloc | apply pw_below_drewN | apply below_drew1 | refine below_set ?_ GE307.out) | exact HB.out)))
                  (case aF => exact (fun k_ hk => ⟨(.inr (Nat.le_trans (by first | exact HK.out.1 | exact (show Kept w _ (fun k_ => P0_ k_) from by repeat (first | (with_reducible first | exact HK.out | apply Kept.alloc | apply Kept.drewN | apply Kept.drew | refine Kept.setCell ?_ (.inr GW307.out) _) | exact HK.out)).1) hk)), Kd.fresh' (Kd.R_lt (by (with_reducible repeat (first | apply Kd.R_alloc | apply Kd.R_drewN | apply Kd.R_drew)); exact HO0.out)) k_ hk, Kd.fresh' (Kd.R_lt (by (with_reducible repeat (first | apply Kd.R_alloc | apply Kd.R_drewN | apply Kd.R_drew)); exact HO317.out)) k_ hk, Kd.freshB (g := gb307) (o := .cells #[.int .i64 a1_0, .string a1_1, .string a1_2] 65 (0, 0)) (by (with_reducible repeat (first | refine blk_drewN ?_ _ | refine blk_drew ?_ | refine blk_alloc ?_ _)); exact BK307.out) k_ hk⟩))
                  (case aO => exact (by (with_reducible repeat (first | apply Kd.R_alloc | apply Kd.R_drewN | apply Kd.R_drew)); exact Kd.R_mono HO311.out (fun _ hk => ⟨hk.1.1.1.1, ⟨hk.1.1.2, ⟨hk.2, hk.1.2⟩⟩⟩)))
                  (case aS => exact (below_size (by repeat (first | (with_reducible first | exact HB.out | apply below_alloc | apply pw_below_drewN | apply below_drew1 | refine below_set ?_ GE307.out) | exact HB.out))))
                  (case aL => have := LMc5.out; omega)
                  intro v313 w48 ho hb hg hat
                  rw [← Ny312.out] at ho
                  have n0_ := Aside0.mk (Kd.R_after (ok := (fun k_ => (P0_ k_ ∨ w.heap.size ≤ k_) ∧ some k_ ≠ (v316 : Value).ownBlock ∧ k_ ≠ gb307)) (by (with_reducible repeat (first | apply Kd.R_alloc | apply Kd.R_drewN | apply Kd.R_drew)); exact Kd.R_mono HO0.out (fun _ hk => ⟨⟨hk.1.1.1, ⟨hk.2, hk.1.1.2⟩⟩, hk.1.2⟩)) hg hat)
                  have n1_ := Aside0.mk (blk_grown (g := gb307) (o := .cells #[.int .i64 a1_0, .string a1_1, .string a1_2] 65 (0, 0)) (by (with_reducible repeat (first | refine blk_drewN ?_ _ | refine blk_drew ?_ | refine blk_alloc ?_ _)); exact BK307.out) hg (Kd.R_away HO311.out (fun _ hk => hk.1.2)))
                  have n2_ := Aside0.mk (Kd.R_after (ok := (fun k_ => (P0_ k_ ∨ w.heap.size ≤ k_) ∧ some k_ ≠ (.slice Ao42 l0.length co42 : Value).ownBlock ∧ k_ ≠ gb307)) (by (with_reducible repeat (first | apply Kd.R_alloc | apply Kd.R_drewN | apply Kd.R_drew)); exact Kd.R_mono HO317.out (fun _ hk => ⟨⟨hk.1.1.1.1, ⟨hk.1.1.2, hk.2⟩⟩, hk.1.2⟩)) hg hat)
                  have n3_ := Aside0.mk (hb)
                  have n4_ := Aside0.mk (Kept.of_grown (S := (fun k_ => P0_ k_)) hg (by repeat (first | (with_reducible first | exact HK.out | apply Kept.alloc | apply Kept.drewN | apply Kept.drew | refine Kept.setCell ?_ (.inr GW307.out) _) | exact HK.out)) (fun k_ e_ => (HO311.out.1 k_ e_).1.1.1.1))
                  have n5_ := Aside0.mk (ho)
                  clear HO0
                  clear BK307
                  clear HO317
                  clear HB
                  clear HK
                  clear HO311
                  have HO0 := n0_
                  have BK307 := n1_
                  have HO317 := n2_
                  have HB := n3_
                  have HK := n4_
                  have HO314 := n5_
                  clear n0_ n1_ n2_ n3_ n4_ n5_
                  clear ho hb hg hat
                  refine hK.out _ _ ⟨(blk_cell BK307.out 0).trans rfl, (blk_cell BK307.out 1).trans rfl, (blk_cell BK307.out 2).trans rfl⟩ (fun hHeld => ?_)
                  clear hK K
                  refine norm_ (a' := ?_) ?_ ?_
                  rotate_left
                  · show Act.put _ (some 13) _ = _
                    simp only [Act.put, List.setIfInBounds_toArray, List.set_cons_zero, List.set_cons_succ, i64_w, i32_w]
                    rfl
                  exact norm_ (by simp only [putAll, Act.put, List.setIfInBounds_toArray, List.set_cons_zero, List.set_cons_succ]) (hCont (v310, v313, v316) _ ⟨hHeld, (by (with_reducible repeat (first | apply Kd.R_alloc | apply Kd.R_drewN | apply Kd.R_drew)); exact Kd.R_mono HO0.out (fun _ hk => ⟨hk.1.1, ⟨hk.2, ⟨hk.1.2.1, hk.1.2.2⟩⟩⟩)), (by (with_reducible repeat (first | apply Kd.R_alloc | apply Kd.R_drewN | apply Kd.R_drew)); exact HO314.out), (by (with_reducible repeat (first | apply Kd.R_alloc | apply Kd.R_drewN | apply Kd.R_drew)); exact Kd.R_mono HO317.out (fun _ hk => ⟨hk.1.1, ⟨hk.1.2.1, ⟨hk.2, hk.1.2.2⟩⟩⟩)), (by (with_reducible repeat (first | refine blk_drewN ?_ _ | refine blk_drew ?_ | refine blk_alloc ?_ _)); exact BK307.out), (by repeat (first | (with_reducible first | exact HK.out | apply Kept.alloc | apply Kept.drewN | apply Kept.drew | refine Kept.setCell ?_ (.inr GW307.out) _) | exact HK.out)), (by repeat (first | (with_reducible first | exact HB.out | apply below_alloc | apply pw_below_drewN | apply below_drew1 | refine below_set ?_ GE307.out) | exact HB.out))⟩)
              · skip
                refine Kd.R_lit_step k65 _ 65 ?hg (N := 15) ?hd (xs := ([(⟨a1_0, a1_1, a1_2⟩ : S65)] : List (S65))) (inner := [.int .i64 a1_0, .string a1_1, .string a1_2]) (ok := fun _ => True) (okp := fun _ => True) ?hr ?hp (fun _ hk => hk) trivial (Below.refl _ _) (Nat.le_refl _) (by simp) ?_; (case hd => rfl); (case hg => rfl); (case hr => first | (go_simp; done) | (go_simp; rfl)); (case hp => exact (Reps.c3 (show Kd.M k65 _ _ _ (⟨a1_0, a1_1, a1_2⟩ : S65) [.int .i64 a1_0, .string a1_1, .string a1_2] from (k65_mkM _ _ _ (⟨a1_0, a1_1, a1_2⟩ : S65) )) (Reps.none _ _)))
                intro v316 w44 ho45 hb hg_ hnew_
                clear hg_ hnew_
                (first | rw [← Ny315.out] at ho45 | (simp only [Int.reduceToNat] at ho45; rw [← Ny315.out] at ho45))
                have n0_ := Aside0.mk (Kd.R_elder' (by (with_reducible repeat (first | apply Kd.R_alloc | apply Kd.R_drewN | apply Kd.R_drew)); exact HO0.out) (Kd.R_base ho45) hb)
                have n1_ := Aside0.mk (Kd.R_lower (Kd.R_newB (Kd.R_new' (Kd.R_newM (M := fun k_ => (P0_ k_ ∨ w.heap.size ≤ k_)) ho45 (by first | exact HK.out.1 | exact (show Kept w _ (fun k_ => P0_ k_) from by repeat (first | (with_reducible first | exact HK.out | apply Kept.alloc | apply Kept.drewN | apply Kept.drew | refine Kept.setCell ?_ (.inr GW307.out) _) | exact HK.out)).1) (fun k_ h_ => .inr h_)) (Kd.R_lt (by (with_reducible repeat (first | apply Kd.R_alloc | apply Kd.R_drewN | apply Kd.R_drew)); exact HO0.out))) (g := gb307) (o := .cells #[.int .i64 a1_0, .string a1_1, .string a1_2] 65 (0, 0)) (by (with_reducible repeat (first | refine blk_drewN ?_ _ | refine blk_drew ?_ | refine blk_alloc ?_ _)); exact BK307.out)) (below_size (by repeat (first | (with_reducible first | exact HB.out | apply below_alloc | apply pw_below_drewN | apply below_drew1 | refine below_set ?_ GE307.out) | exact HB.out))))
                have n2_ := Aside0.mk (blk_below (g := gb307) (o := .cells #[.int .i64 a1_0, .string a1_1, .string a1_2] 65 (0, 0)) (by (with_reducible repeat (first | refine blk_drewN ?_ _ | refine blk_drew ?_ | refine blk_alloc ?_ _)); exact BK307.out) hb)
                have n3_ := Aside0.mk (Kept.below (S := (fun k_ => P0_ k_)) (by repeat (first | (with_reducible first | exact HK.out | apply Kept.alloc | apply Kept.drewN | apply Kept.drew | refine Kept.setCell ?_ (.inr GW307.out) _) | exact HK.out)) hb)
                have n4_ := Aside0.mk (below_step (by repeat (first | (with_reducible first | exact HB.out | apply below_alloc | apply pw_below_drewN | apply below_drew1 | refine below_set ?_ GE307.out) | exact HB.out)) hb)
                clear HO0
                clear BK307
                clear HK
                clear HB
                have HO0 := n0_
                have HO317 := n1_
                have BK307 := n2_
                have HK := n3_
                have HB := n4_
                clear n0_ n1_ n2_ n3_ n4_
                clear hb ho45
                refine hK.out _ _ ⟨(blk_cell BK307.out 0).trans rfl, (blk_cell BK307.out 1).trans rfl, (blk_cell BK307.out 2).trans rfl⟩ (fun hHeld => ?_)
                clear hK K
                refine norm_ (a' := ?_) ?_ ?_
                rotate_left
                · show Act.put _ (some 15) _ = _
                  simp only [Act.put, List.setIfInBounds_toArray, List.set_cons_zero, List.set_cons_succ, i64_w, i32_w]
                  rfl
                refine one_ (i := 0) (N := some 11) #[true, true, false, true, true, false, false] rfl rfl (by kernel_rfl) (by decide) (fun K hK => ?_)
                refine Kd.R_lit_step k65 _ 65 ?hg (N := 11) ?hd (xs := ([] : List (S65))) (inner := []) (ok := fun _ => True) (okp := fun _ => True) ?hr ?hp (fun _ hk => hk) trivial (Below.refl _ _) (Nat.le_refl _) (by simp) ?_; (case hd => rfl); (case hg => rfl); (case hr => first | (go_simp; done) | (go_simp; rfl)); (case hp => exact (Reps.none _ _))
                intro v310 w46 ho47 hb hg_ hnew_
                clear hg_ hnew_
                (first | rw [← Ny309.out] at ho47 | (simp only [Int.reduceToNat] at ho47; rw [← Ny309.out] at ho47))
                have n0_ := Aside0.mk (Kd.R_elder' (by (with_reducible repeat (first | apply Kd.R_alloc | apply Kd.R_drewN | apply Kd.R_drew)); exact HO0.out) (Kd.R_base ho47) hb)
                have n1_ := Aside0.mk (Kd.R_elder' (by (with_reducible repeat (first | apply Kd.R_alloc | apply Kd.R_drewN | apply Kd.R_drew)); exact HO317.out) (Kd.R_base ho47) hb)
                have n2_ := Aside0.mk (Kd.R_lower (Kd.R_newB (Kd.R_new' (Kd.R_new' (Kd.R_newM (M := fun k_ => (P0_ k_ ∨ w.heap.size ≤ k_)) ho47 (by first | exact HK.out.1 | exact (show Kept w _ (fun k_ => P0_ k_) from by repeat (first | (with_reducible first | exact HK.out | apply Kept.alloc | apply Kept.drewN | apply Kept.drew | refine Kept.setCell ?_ (.inr GW307.out) _) | exact HK.out)).1) (fun k_ h_ => .inr h_)) (Kd.R_lt (by (with_reducible repeat (first | apply Kd.R_alloc | apply Kd.R_drewN | apply Kd.R_drew)); exact HO0.out))) (Kd.R_lt (by (with_reducible repeat (first | apply Kd.R_alloc | apply Kd.R_drewN | apply Kd.R_drew)); exact HO317.out))) (g := gb307) (o := .cells #[.int .i64 a1_0, .string a1_1, .string a1_2] 65 (0, 0)) (by (with_reducible repeat (first | refine blk_drewN ?_ _ | refine blk_drew ?_ | refine blk_alloc ?_ _)); exact BK307.out)) (below_size (by repeat (first | (with_reducible first | exact HB.out | apply below_alloc | apply pw_below_drewN | apply below_drew1 | refine below_set ?_ GE307.out) | exact HB.out))))
                have n3_ := Aside0.mk (blk_below (g := gb307) (o := .cells #[.int .i64 a1_0, .string a1_1, .string a1_2] 65 (0, 0)) (by (with_reducible repeat (first | refine blk_drewN ?_ _ | refine blk_drew ?_ | refine blk_alloc ?_ _)); exact BK307.out) hb)
                have n4_ := Aside0.mk (Kept.below (S := (fun k_ => P0_ k_)) (by repeat (first | (with_reducible first | exact HK.out | apply Kept.alloc | apply Kept.drewN | apply Kept.drew | refine Kept.setCell ?_ (.inr GW307.out) _) | exact HK.out)) hb)
                have n5_ := Aside0.mk (below_step (by repeat (first | (with_reducible first | exact HB.out | apply below_alloc | apply pw_below_drewN | apply below_drew1 | refine below_set ?_ GE307.out) | exact HB.out)) hb)
                clear HO0
                clear HO317
                clear BK307
                clear HK
                clear HB
                have HO0 := n0_
                have HO317 := n1_
                have HO311 := n2_
                have BK307 := n3_
                have HK := n4_
                have HB := n5_
                clear n0_ n1_ n2_ n3_ n4_ n5_
                clear hb ho47
                refine hK.out _ _ ⟨(blk_cell BK307.out 0).trans rfl, (blk_cell BK307.out 1).trans rfl, (blk_cell BK307.out 2).trans rfl⟩ (fun hHeld => ?_)
                clear hK K
                refine norm_ (a' := ?_) ?_ ?_
                rotate_left
                · show Act.put _ (some 11) _ = _
                  simp only [Act.put, List.setIfInBounds_toArray, List.set_cons_zero, List.set_cons_succ, i64_w, i32_w]
                  rfl
                refine one_ (i := 2) (N := some 13) #[true, true, true, true, true, false, false] rfl rfl (by kernel_rfl) (by decide) (fun K hK => ?_)
                refine Kd.R_append_rows_step k65 (w0 := w0) w0.heap.size (by rfl) (.tmp 11) (.tmp 12) 22 65 (.agg #[(.int .i64 0), (.string ⟨#[]⟩), (.string ⟨#[]⟩)]) 40 rfl Try.underlying22 info65 rfl (by decide) (by omega) v310 y309 l0 _ _ _ (fun k_ => (P0_ k_ ∨ w.heap.size ≤ k_) ∧ some k_ ≠ (.slice Ao42 l0.length co42 : Value).ownBlock ∧ some k_ ≠ (v316 : Value).ownBlock ∧ k_ ≠ gb307) (fun _ => False) rfl rfl ?aO ?aR (fun _ _ h => h) (fun _ h => h.elim) ?aF ?aB ?aS ?aL ?_
                (case aR => repeat (first | exact (Kd.R_reads' HO0.out).2.2 | (with_reducible refine Kd.C_alloc ?_ _) | (with_reducible refine Kd.C_drewN ?_ _) | (with_reducible refine Kd.C_drew ?_)))
                (case aB => exact (by repeat (first | (with_reducible first | exact HB.out | apply below_alloc | apply pw_below_drewN | apply below_drew1 | refine below_set ?_ GE307.out) | exact HB.out)))
                (case aF => exact (fun k_ hk => ⟨(.inr (Nat.le_trans (by first | exact HK.out.1 | exact (show Kept w _ (fun k_ => P0_ k_) from by repeat (first | (with_reducible first | exact HK.out | apply Kept.alloc | apply Kept.drewN | apply Kept.drew | refine Kept.setCell ?_ (.inr GW307.out) _) | exact HK.out)).1) hk)), Kd.fresh' (Kd.R_lt (by (with_reducible repeat (first | apply Kd.R_alloc | apply Kd.R_drewN | apply Kd.R_drew)); exact HO0.out)) k_ hk, Kd.fresh' (Kd.R_lt (by (with_reducible repeat (first | apply Kd.R_alloc | apply Kd.R_drewN | apply Kd.R_drew)); exact HO317.out)) k_ hk, Kd.freshB (g := gb307) (o := .cells #[.int .i64 a1_0, .string a1_1, .string a1_2] 65 (0, 0)) (by (with_reducible repeat (first | refine blk_drewN ?_ _ | refine blk_drew ?_ | refine blk_alloc ?_ _)); exact BK307.out) k_ hk⟩))
                (case aO => exact (by (with_reducible repeat (first | apply Kd.R_alloc | apply Kd.R_drewN | apply Kd.R_drew)); exact Kd.R_mono HO311.out (fun _ hk => ⟨hk.1.1.1.1, ⟨hk.1.1.2, ⟨hk.1.2, hk.2⟩⟩⟩)))
                (case aS => exact (below_size (by repeat (first | (with_reducible first | exact HB.out | apply below_alloc | apply pw_below_drewN | apply below_drew1 | refine below_set ?_ GE307.out) | exact HB.out))))
                (case aL => have := LMc5.out; omega)
                intro v313 w48 ho hb hg hat
                rw [← Ny312.out] at ho
                have n0_ := Aside0.mk (Kd.R_after (ok := (fun k_ => (P0_ k_ ∨ w.heap.size ≤ k_) ∧ some k_ ≠ (v316 : Value).ownBlock ∧ k_ ≠ gb307)) (by (with_reducible repeat (first | apply Kd.R_alloc | apply Kd.R_drewN | apply Kd.R_drew)); exact Kd.R_mono HO0.out (fun _ hk => ⟨⟨hk.1.1.1, ⟨hk.1.2, hk.1.1.2⟩⟩, hk.2⟩)) hg hat)
                have n1_ := Aside0.mk (blk_grown (g := gb307) (o := .cells #[.int .i64 a1_0, .string a1_1, .string a1_2] 65 (0, 0)) (by (with_reducible repeat (first | refine blk_drewN ?_ _ | refine blk_drew ?_ | refine blk_alloc ?_ _)); exact BK307.out) hg (Kd.R_away HO311.out (fun _ hk => hk.2)))
                have n2_ := Aside0.mk (Kd.R_after (ok := (fun k_ => (P0_ k_ ∨ w.heap.size ≤ k_) ∧ some k_ ≠ (.slice Ao42 l0.length co42 : Value).ownBlock ∧ k_ ≠ gb307)) (by (with_reducible repeat (first | apply Kd.R_alloc | apply Kd.R_drewN | apply Kd.R_drew)); exact Kd.R_mono HO317.out (fun _ hk => ⟨⟨hk.1.1.1.1, ⟨hk.1.1.2, hk.1.2⟩⟩, hk.2⟩)) hg hat)
                have n3_ := Aside0.mk (hb)
                have n4_ := Aside0.mk (Kept.of_grown (S := (fun k_ => P0_ k_)) hg (by repeat (first | (with_reducible first | exact HK.out | apply Kept.alloc | apply Kept.drewN | apply Kept.drew | refine Kept.setCell ?_ (.inr GW307.out) _) | exact HK.out)) (fun k_ e_ => (HO311.out.1 k_ e_).1.1.1.1))
                have n5_ := Aside0.mk (ho)
                clear HO0
                clear BK307
                clear HO317
                clear HB
                clear HK
                clear HO311
                have HO0 := n0_
                have BK307 := n1_
                have HO317 := n2_
                have HB := n3_
                have HK := n4_
                have HO314 := n5_
                clear n0_ n1_ n2_ n3_ n4_ n5_
                clear ho hb hg hat
                refine hK.out _ _ ⟨(blk_cell BK307.out 0).trans rfl, (blk_cell BK307.out 1).trans rfl, (blk_cell BK307.out 2).trans rfl⟩ (fun hHeld => ?_)
                clear hK K
                refine norm_ (a' := ?_) ?_ ?_
                rotate_left
                · show Act.put _ (some 13) _ = _
                  simp only [Act.put, List.setIfInBounds_toArray, List.set_cons_zero, List.set_cons_succ, i64_w, i32_w]
                  rfl
                exact norm_ (by simp only [putAll, Act.put, List.setIfInBounds_toArray, List.set_cons_zero, List.set_cons_succ]) (hCont (v310, v313, v316) _ ⟨hHeld, (by (with_reducible repeat (first | apply Kd.R_alloc | apply Kd.R_drewN | apply Kd.R_drew)); exact Kd.R_mono HO0.out (fun _ hk => ⟨hk.1.1, ⟨hk.2, ⟨hk.1.2.1, hk.1.2.2⟩⟩⟩)), (by (with_reducible repeat (first | apply Kd.R_alloc | apply Kd.R_drewN | apply Kd.R_drew)); exact HO314.out), (by (with_reducible repeat (first | apply Kd.R_alloc | apply Kd.R_drewN | apply Kd.R_drew)); exact Kd.R_mono HO317.out (fun _ hk => ⟨hk.1.1, ⟨hk.1.2.1, ⟨hk.2, hk.1.2.2⟩⟩⟩)), (by (with_reducible repeat (first | refine blk_drewN ?_ _ | refine blk_drew ?_ | refine blk_alloc ?_ _)); exact BK307.out), (by repeat (first | (with_reducible first | exact HK.out | apply Kept.alloc | apply Kept.drewN | apply Kept.drew | refine Kept.setCell ?_ (.inr GW307.out) _) | exact HK.out)), (by repeat (first | (with_reducible first | exact HB.out | apply below_alloc | apply pw_below_drewN | apply below_drew1 | refine below_set ?_ GE307.out) | exact HB.out))⟩)
            rintro ⟨v310, v313, v316⟩ w49 ⟨hS_, h0_, h1_, h2_, h3_, h4_, h5_⟩
            have n0_ : Aside0 (Kd.R k65 65 w49 w0.heap.size (fun k_ => (P0_ k_ ∨ w.heap.size ≤ k_) ∧ some k_ ≠ (v313 : Value).ownBlock ∧ some k_ ≠ (v316 : Value).ownBlock ∧ k_ ≠ gb307) (.slice Ao42 l0.length co42) l0) := ⟨h0_⟩
            have n1_ : Aside0 (Kd.R k65 65 w49 w0.heap.size (fun k_ => (P0_ k_ ∨ w.heap.size ≤ k_) ∧ some k_ ≠ (.slice Ao42 l0.length co42 : Value).ownBlock ∧ some k_ ≠ (v316 : Value).ownBlock ∧ k_ ≠ gb307) v313 y312) := ⟨h1_⟩
            have n2_ : Aside0 (Kd.R k65 65 w49 w0.heap.size (fun k_ => (P0_ k_ ∨ w.heap.size ≤ k_) ∧ some k_ ≠ (.slice Ao42 l0.length co42 : Value).ownBlock ∧ some k_ ≠ (v313 : Value).ownBlock ∧ k_ ≠ gb307) v316 y315) := ⟨h2_⟩
            have n3_ : Aside0 (w49.heap[gb307]? = some (.cells #[.int .i64 a1_0, .string a1_1, .string a1_2] 65 (0, 0))) := ⟨h3_⟩
            have n4_ : Aside0 (Kept w w49 (fun k_ => P0_ k_)) := ⟨h4_⟩
            have n5_ : Aside0 (Below w0.heap.size w0 w49) := ⟨h5_⟩
            clear HO0
            clear BK307
            clear HK
            clear HB
            clear h0_ h1_ h2_ h3_ h4_ h5_
            have HO0 := n0_
            have HO314 := n1_
            have HO317 := n2_
            have BK307 := n3_
            have HK := n4_
            have HB := n5_
            clear n0_ n1_ n2_ n3_ n4_ n5_
            have hHeld : w49.cell? ⟨gb307, 0, none⟩ = some (.int .i64 a1_0) ∧ w49.cell? ⟨gb307, 1, none⟩ = some (.string a1_1) ∧ w49.cell? ⟨gb307, 2, none⟩ = some (.string a1_2) := hS_
            obtain ⟨Ao51, co51, eo51⟩ := Kd.R_slice HO317.out
            (first | subst eo51 | (injection eo51 with f1_ f2_ f3_; have f4_ := f1_.symm; have f5_ := f3_.symm; clear f1_ f2_ f3_; subst f4_; subst f5_))
            refine norm_ (a' := ?_) ?_ ?_
            rotate_left
            · simp only [putAll, Act.put, List.setIfInBounds_toArray, List.set_cons_zero, List.set_cons_succ]
              rfl
            refine one_ (i := 5) (N := some 16) #[true, true, true, true, true, true, false] rfl rfl (by kernel_rfl) (by decide) (fun K hK => ?_)
            refine Kd.R_append_rows_step k65 (w0 := w0) w0.heap.size (by rfl) (.tmp 13) (.tmp 15) 22 65 (.agg #[(.int .i64 0), (.string ⟨#[]⟩), (.string ⟨#[]⟩)]) 40 rfl Try.underlying22 info65 rfl (by decide) (by omega) v313 y312 y315 _ _ _ (fun k_ => (P0_ k_ ∨ w.heap.size ≤ k_) ∧ some k_ ≠ (.slice Ao42 l0.length co42 : Value).ownBlock ∧ some k_ ≠ (.slice Ao51 y315.length co51 : Value).ownBlock ∧ k_ ≠ gb307) (fun _ => False) rfl rfl ?aO ?aR (fun _ _ h => h) (fun _ h => h.elim) ?aF ?aB ?aS ?aL ?_
            (case aR => repeat (first | exact (Kd.R_reads' HO317.out).2.2 | (with_reducible refine Kd.C_alloc ?_ _) | (with_reducible refine Kd.C_drewN ?_ _) | (with_reducible refine Kd.C_drew ?_)))
            (case aB => exact (by repeat (first | (with_reducible first | exact HB.out | apply below_alloc | apply pw_below_drewN | apply below_drew1 | refine below_set ?_ GE307.out) | exact HB.out)))
            (case aF => exact (fun k_ hk => ⟨(.inr (Nat.le_trans (by first | exact HK.out.1 | exact (show Kept w _ (fun k_ => P0_ k_) from by repeat (first | (with_reducible first | exact HK.out | apply Kept.alloc | apply Kept.drewN | apply Kept.drew | refine Kept.setCell ?_ (.inr GW307.out) _) | exact HK.out)).1) hk)), Kd.fresh' (Kd.R_lt (by (with_reducible repeat (first | apply Kd.R_alloc | apply Kd.R_drewN | apply Kd.R_drew)); exact HO0.out)) k_ hk, Kd.fresh' (Kd.R_lt (by (with_reducible repeat (first | apply Kd.R_alloc | apply Kd.R_drewN | apply Kd.R_drew)); exact HO317.out)) k_ hk, Kd.freshB (g := gb307) (o := .cells #[.int .i64 a1_0, .string a1_1, .string a1_2] 65 (0, 0)) (by (with_reducible repeat (first | refine blk_drewN ?_ _ | refine blk_drew ?_ | refine blk_alloc ?_ _)); exact BK307.out) k_ hk⟩))
            (case aO => exact (by (with_reducible repeat (first | apply Kd.R_alloc | apply Kd.R_drewN | apply Kd.R_drew)); exact HO314.out))
            (case aS => exact (below_size (by repeat (first | (with_reducible first | exact HB.out | apply below_alloc | apply pw_below_drewN | apply below_drew1 | refine below_set ?_ GE307.out) | exact HB.out))))
            (case aL => have := LMc6.out; omega)
            intro v319 w50 ho hb hg hat
            rw [← Ny318.out] at ho
            have n0_ := Aside0.mk (Kd.R_after (ok := (fun k_ => (P0_ k_ ∨ w.heap.size ≤ k_) ∧ some k_ ≠ (.slice Ao51 y315.length co51 : Value).ownBlock ∧ k_ ≠ gb307)) (by (with_reducible repeat (first | apply Kd.R_alloc | apply Kd.R_drewN | apply Kd.R_drew)); exact Kd.R_mono HO0.out (fun _ hk => ⟨⟨hk.1, ⟨hk.2.2.1, hk.2.2.2⟩⟩, hk.2.1⟩)) hg hat)
            have n1_ := Aside0.mk (blk_grown (g := gb307) (o := .cells #[.int .i64 a1_0, .string a1_1, .string a1_2] 65 (0, 0)) (by (with_reducible repeat (first | refine blk_drewN ?_ _ | refine blk_drew ?_ | refine blk_alloc ?_ _)); exact BK307.out) hg (Kd.R_away HO314.out (fun _ hk => hk.2.2.2)))
            have n2_ := Aside0.mk (Kd.R_after (ok := (fun k_ => (P0_ k_ ∨ w.heap.size ≤ k_) ∧ some k_ ≠ (.slice Ao42 l0.length co42 : Value).ownBlock ∧ k_ ≠ gb307)) (by (with_reducible repeat (first | apply Kd.R_alloc | apply Kd.R_drewN | apply Kd.R_drew)); exact Kd.R_mono HO317.out (fun _ hk => ⟨⟨hk.1, ⟨hk.2.1, hk.2.2.2⟩⟩, hk.2.2.1⟩)) hg hat)
            have n3_ := Aside0.mk (hb)
            have n4_ := Aside0.mk (Kept.of_grown (S := (fun k_ => P0_ k_)) hg (by repeat (first | (with_reducible first | exact HK.out | apply Kept.alloc | apply Kept.drewN | apply Kept.drew | refine Kept.setCell ?_ (.inr GW307.out) _) | exact HK.out)) (fun k_ e_ => (HO314.out.1 k_ e_).1))
            have n5_ := Aside0.mk (ho)
            clear HO0
            clear BK307
            clear HO317
            clear HB
            clear HK
            clear HO314
            have HO0 := n0_
            have BK307 := n1_
            have HO317 := n2_
            have HB := n3_
            have HK := n4_
            have HO320 := n5_
            clear n0_ n1_ n2_ n3_ n4_ n5_
            clear ho hb hg hat
            refine hK.out _ _ ⟨(blk_cell BK307.out 0).trans rfl, (blk_cell BK307.out 1).trans rfl, (blk_cell BK307.out 2).trans rfl⟩ (fun hHeld => ?_)
            clear hK K
            refine norm_ (a' := ?_) ?_ ?_
            rotate_left
            · show Act.put _ (some 16) _ = _
              simp only [Act.put, List.setIfInBounds_toArray, List.set_cons_zero, List.set_cons_succ, i64_w, i32_w]
              rfl
            refine pure_ (i := 6) (N := some 6) (v := ?_) (a' := ?_) #[true, true, true, true, true, true, true] rfl rfl (by kernel_rfl) (fun _ _ _ h => h) (Or.inl ⟨by rfl, ?_⟩) ?_ ?_
            rotate_left
            · intro w'
              go_simp
              with_reducible rfl
            rotate_left
            · simp only [Act.put, List.setIfInBounds_toArray, List.set_cons_zero, List.set_cons_succ, i64_w, i32_w]
              rfl
            refine done_ (by kernel_rfl) ?_
            obtain ⟨Ao52, co52, eo52⟩ := Kd.R_slice HO320.out
            subst eo52
            try go_wp2_with (first | (go_at_call 52; (with_reducible refine (moraineref04_size.calls k _ _ y318 t321 _ ?side1 ?side2 A22.out).mono ?_); (case side1 => repeat (first | exact (Kd.R_reads' HO320.out).2.2 | (with_reducible refine Kd.C_alloc ?_ _) | (with_reducible refine Kd.C_drewN ?_ _) | (with_reducible refine Kd.C_drew ?_))); (case side2 => exact (Kd.R_reads' HO320.out).2.1); rintro e w53 ⟨rfl, hb⟩; have n0_ := Aside0.mk (Kd.R_below (by (with_reducible repeat (first | apply Kd.R_alloc | apply Kd.R_drewN | apply Kd.R_drew)); exact HO0.out) hb); have n1_ := Aside0.mk (Kd.R_below (by (with_reducible repeat (first | apply Kd.R_alloc | apply Kd.R_drewN | apply Kd.R_drew)); exact HO317.out) hb); have n2_ := Aside0.mk (Kd.R_below (by (with_reducible repeat (first | apply Kd.R_alloc | apply Kd.R_drewN | apply Kd.R_drew)); exact HO320.out) hb); have n3_ := Aside0.mk (blk_below (g := gb307) (o := .cells #[.int .i64 a1_0, .string a1_1, .string a1_2] 65 (0, 0)) (by (with_reducible repeat (first | refine blk_drewN ?_ _ | refine blk_drew ?_ | refine blk_alloc ?_ _)); exact BK307.out) hb); have n4_ := Aside0.mk (Kept.below (S := (fun k_ => P0_ k_)) (by repeat (first | (with_reducible first | exact HK.out | apply Kept.alloc | apply Kept.drewN | apply Kept.drew | refine Kept.setCell ?_ (.inr GW307.out) _) | exact HK.out)) hb); have n5_ := Aside0.mk (below_step (by repeat (first | (with_reducible first | exact HB.out | apply below_alloc | apply pw_below_drewN | apply below_drew1 | refine below_set ?_ GE307.out) | exact HB.out)) hb); clear HO0; clear HO317; clear HO320; clear BK307; clear HK; clear HB; have HO0 := n0_; have HO317 := n1_; have HO320 := n2_; have BK307 := n3_; have HK := n4_; have HB := n5_; clear n0_ n1_ n2_ n3_ n4_ n5_; (try clear hb); (try clear hb2); (try clear hk); (try clear hi)))
            go_ret2
            exact ⟨_, by first | rfl | (simp [errW_none, errW_some] <;> rfl) | (simp [*, errW_none, errW_some] <;> rfl), by (with_reducible repeat (first | apply Kd.R_alloc | apply Kd.R_drewN | apply Kd.R_drew)); exact Kd.R_mono HO320.out (fun _ hk => hk.1), by repeat (first | (with_reducible first | exact HB.out | apply below_alloc | apply pw_below_drewN | apply below_drew1 | refine below_set ?_ GE307.out) | exact HB.out), by repeat (first | (with_reducible first | exact HK.out | apply Kept.alloc | apply Kept.drewN | apply Kept.drew | refine Kept.setCell ?_ (.inr GW307.out) _) | exact HK.out)⟩
      · rw [if_neg c6] at H
        exact absurd H (by simp)
    · rw [if_neg c5] at H
      exact absurd H (by simp)
  · replace c4 := Bool.eq_false_iff.mpr c4
    subst c4
    have H1 : (some (l0, 40)) = some (r1, r2) := by rw [if_neg (show ¬ (false = true) by decide)] at H; exact H
    clear H
    have H := H1
    clear H1
    simp only [Option.some.injEq, Prod.mk.injEq] at H
    obtain ⟨rfl, rfl⟩ := H
    go_enter Try.func60, Try.ntmps60
    go_wp2_with (first | ((with_reducible refine gate_dst (N := 3) rfl ?_); refine box_event ?hg (N := 3) ?hd (cs := #[.int .i64 a1_0, .string a1_1, .string a1_2]) (t := 65) ?hr ?_; (case hd => rfl); (case hg => rfl); (case hr => first | (go_simp; done) | (go_simp; rfl)); intro gb307 hg w54 hbox hb; have n0_ := Aside0.mk (Kd.R_below (Kd.R_elderB (by (with_reducible repeat (first | apply Kd.R_alloc | apply Kd.R_drewN | apply Kd.R_drew)); exact HO0.out) gb307 (Nat.le_of_eq hg.symm)) hb); have n1_ := Aside0.mk (Kept.below (S := (fun k_ => P0_ k_)) (by repeat (first | (with_reducible first | exact HK.out | apply Kept.alloc | apply Kept.drewN | apply Kept.drew) | exact HK.out)) hb); have n2_ := Aside0.mk (below_step (by repeat (first | (with_reducible first | exact HB.out | apply below_alloc | apply pw_below_drewN | apply below_drew1) | exact HB.out)) hb); have n3_ := Aside0.mk (hbox); have n4_ := Aside0.mk ((by rw [hg]; exact (by first | exact HK.out.1 | exact (show Kept w _ (fun k_ => P0_ k_) from by repeat (first | (with_reducible first | exact HK.out | apply Kept.alloc | apply Kept.drewN | apply Kept.drew) | exact HK.out)).1) : w.heap.size ≤ gb307)); have n5_ := Aside0.mk ((by rw [hg]; exact (below_size (by repeat (first | (with_reducible first | exact HB.out | apply below_alloc | apply pw_below_drewN | apply below_drew1) | exact HB.out))) : w0.heap.size ≤ gb307)); clear HO0; clear HK; clear HB; have HO0 := n0_; have HK := n1_; have HB := n2_; have BK307 := n3_; have GW307 := n4_; have GE307 := n5_; clear n0_ n1_ n2_ n3_ n4_ n5_; clear hb hbox hg; have hcz55_0 : w54.cell? ⟨gb307, 0, none⟩ = some (.int .i64 a1_0) := (blk_cell BK307.out 0).trans rfl; have hcz55_1 : w54.cell? ⟨gb307, 1, none⟩ = some (.string a1_1) := (blk_cell BK307.out 1).trans rfl; have hcz55_2 : w54.cell? ⟨gb307, 2, none⟩ = some (.string a1_2) := (blk_cell BK307.out 2).trans rfl; have hfz55_0 := blk_frozen BK307.out 0; have hfz55_1 := blk_frozen BK307.out 1; have hfz55_2 := blk_frozen BK307.out 2) | ((with_reducible refine gate_callee (f := 51) rfl ?_); refine goesL_ (some 8) rfl rfl Try.func51 (by kernel_rfl) rfl #[.agg #[.int .i64 a1_0, .string a1_1, .string a1_2]] rfl (by (try simp only [List.map_toArray, List.map_cons, List.map_nil]); first | done | rfl | (simp only [List.length_drop, List.length_take]; rfl)) ?_; (with_reducible refine (moraineref04_May.calls k a1_0 a1_1 a1_2 false _ A3.out).mono ?_); rintro e w56 ⟨rfl, hb⟩; refine ⟨_, rfl, ?_⟩; have n0_ := Aside0.mk (Kd.R_below (by (with_reducible repeat (first | apply Kd.R_alloc | apply Kd.R_drewN | apply Kd.R_drew)); exact HO0.out) hb); have n1_ := Aside0.mk (blk_below (g := gb307) (o := .cells #[.int .i64 a1_0, .string a1_1, .string a1_2] 65 (0, 0)) (by (with_reducible repeat (first | refine blk_drewN ?_ _ | refine blk_drew ?_ | refine blk_alloc ?_ _)); exact BK307.out) hb); have n2_ := Aside0.mk (Kept.below (S := (fun k_ => P0_ k_)) (by repeat (first | (with_reducible first | exact HK.out | apply Kept.alloc | apply Kept.drewN | apply Kept.drew | refine Kept.setCell ?_ (.inr GW307.out) _) | exact HK.out)) hb); have n3_ := Aside0.mk (below_step (by repeat (first | (with_reducible first | exact HB.out | apply below_alloc | apply pw_below_drewN | apply below_drew1 | refine below_set ?_ GE307.out) | exact HB.out)) hb); clear HO0; clear BK307; clear HK; clear HB; have HO0 := n0_; have BK307 := n1_; have HK := n2_; have HB := n3_; clear n0_ n1_ n2_ n3_; (try clear hb); (try clear hb2); (try clear hk); (try clear hi)))
    go_ret2
    exact ⟨_, by first | rfl | (simp [errW_none, errW_some] <;> rfl) | (simp [*, errW_none, errW_some] <;> rfl), by (with_reducible repeat (first | apply Kd.R_alloc | apply Kd.R_drewN | apply Kd.R_drew)); exact Kd.R_mono HO0.out (fun _ hk => hk.1), by repeat (first | (with_reducible first | exact HB.out | apply below_alloc | apply pw_below_drewN | apply below_drew1 | refine below_set ?_ GE307.out) | exact HB.out), by repeat (first | (with_reducible first | exact HK.out | apply Kept.alloc | apply Kept.drewN | apply Kept.drew | refine Kept.setCell ?_ (.inr GW307.out) _) | exact HK.out)⟩

end Go.Proofs.Ythkooncibfkepaa.G

/- Printed by the session's program over the kit's print, out of the translation: functions as plain Lean functions, and the proofs that the calls come to them. -/
namespace Go.Proofs.Ythkooncibfkepaa.G
open Go.RowKit Go.Proofs.YthkooncibfkepaaW.PrintWords Go.Proofs.YthkooncibfkepaaW.PrintLast Go.Proofs.YthkooncibfkepaaW.PrintMore
attribute [local go_sem] max2_int min2_int max_two min_two max_three min_three max_four min_four   -- for this text's walks alone
set_option linter.unusedVariables false
set_option linter.unusedSimpArgs false

/-! ### moraineref04_Bytes: function 61 -/
def moraineref04_Bytes.f (k : Nat) (l0 : List (S65)) : Option (Int) := (moraineref04_size.f k l0).bind fun t322 => (some t322)
theorem moraineref04_Bytes.mono : ∀ a0 k, LeO (moraineref04_Bytes.f k a0) (moraineref04_Bytes.f (k + 1) a0) := by
  intro a0 k
  unfold moraineref04_Bytes.f
  repeat' first
      | (with_reducible exact moraineref04_size.mono _ _)
      | (with_reducible exact LeO.refl _)
      | (with_reducible exact LeO.none _)
      | (with_reducible refine LeO.ite ?_ ?_)
      | (with_reducible refine LeO.bind ?_ (fun _ => ?_))
      | exact moraineref04_size.mono _ _
      | exact LeO.none _
      | refine LeO.ite ?_ ?_
      | refine LeO.bind ?_ (fun _ => ?_)
set_option maxHeartbeats 8000000 in
set_option maxRecDepth 100000 in
theorem moraineref04_Bytes.calls (k : Nat) (A0 : Option Addr) (c0 : Nat) (l0 : List (S65)) (r : Int) (w : World) (hr0 : Kd.C k65 w A0 l0.length l0) (hc0 : l0.length ≤ c0) (h : moraineref04_Bytes.f k l0 = some r) :
    Calls Try.prog 61 #[.slice A0 l0.length c0] w fun e w' => e = .returned (.int .i64 r) ∧ Below w.heap.size w w' := by
  have HR0 := Aside0.mk hr0
  have HC0 := Aside0.mk hc0
  clear hr0 hc0
  have HB := Aside0.mk (Below.refl w.heap.size w)
  have H : ((moraineref04_size.f k l0).bind fun t322 => (some t322)) = some r := h
  clear h
  replace H := Option.bind_eq_some_iff.mp H
  obtain ⟨t322, A20, H⟩ := H
  replace H : (some t322) = some r := H
  have A2 := Aside0.mk A20
  clear A20
  obtain rfl := Option.some.inj H
  go_enter Try.func61, Try.ntmps61
  go_wp2_with (first | ((with_reducible refine gate_callee (f := 52) rfl ?_); refine goesL_ (some 4) rfl rfl Try.func52 (by kernel_rfl) rfl #[.slice A0 l0.length c0] rfl (by (try simp only [List.map_toArray, List.map_cons, List.map_nil]); first | done | rfl | (simp only [List.length_drop, List.length_take]; rfl)) ?_; (with_reducible refine (moraineref04_size.calls k _ _ l0 t322 _ ?side1 ?side2 A2.out).mono ?_); (case side1 => repeat (first | exact HR0.out | (with_reducible refine Kd.C_alloc ?_ _) | (with_reducible refine Kd.C_drewN ?_ _) | (with_reducible refine Kd.C_drew ?_))); (case side2 => exact HC0.out); rintro e w3 ⟨rfl, hb⟩; refine ⟨_, rfl, ?_⟩; have n0_ := Aside0.mk (below_step (by repeat (first | (with_reducible first | exact HB.out | apply below_alloc | apply pw_below_drewN | apply below_drew1) | exact HB.out)) hb); clear HB; have HB := n0_; clear n0_; (try clear hb); (try clear hb2); (try clear hk); (try clear hi)))
  go_ret
  exact ⟨by first | rfl | (simp [errW_none, errW_some] <;> rfl) | (simp [*, errW_none, errW_some] <;> rfl), by repeat (first | (with_reducible first | exact HB.out | apply below_alloc | apply pw_below_drewN | apply below_drew1) | exact HB.out)⟩

end Go.Proofs.Ythkooncibfkepaa.G

/- Printed by the session's program over the kit's print, out of the translation: functions as plain Lean functions, and the proofs that the calls come to them. -/
namespace Go.Proofs.Ythkooncibfkepaa.G
open Go.RowKit Go.Proofs.YthkooncibfkepaaW.PrintWords Go.Proofs.YthkooncibfkepaaW.PrintLast Go.Proofs.YthkooncibfkepaaW.PrintMore
attribute [local go_sem] max2_int min2_int max_two min_two max_three min_three max_four min_four   -- for this text's walks alone
set_option linter.unusedVariables false
set_option linter.unusedSimpArgs false

/-! ### morainelaw04_among: function 46 -/
def morainelaw04_among.f (a0 : Int) (a1 : Int) : Option (Int) := if a1 = 0 then (none) else (some (Int.tmod (wrap64 ((Int.tmod a0 a1) + a1)) a1))
set_option maxHeartbeats 8000000 in
set_option maxRecDepth 100000 in
theorem morainelaw04_among.calls (a0 : Int) (a1 : Int) (r : Int) (w : World) (h : morainelaw04_among.f a0 a1 = some r) :
    Calls Try.prog 46 #[.int .i64 a0, .int .i64 a1] w fun e w' => e = .returned (.int .i64 r) ∧ Drawn0 w w' := by
  have H : (if a1 = 0 then (none) else (some (Int.tmod (wrap64 ((Int.tmod a0 a1) + a1)) a1))) = some r := h
  clear h
  by_cases c3 : a1 = 0
  · rw [if_pos c3] at H
    exact absurd H (by simp)
  · rw [if_neg c3] at H
    have c3b0 : (a1 == 0) = false := beq_eq_false_iff_ne.mpr c3
    have c3b1 : (a1 != 0) = true := bne_iff_ne.mpr c3
    obtain rfl := Option.some.inj H
    go_enter Try.func46, Try.ntmps46
    go_wp2
    go_ret
    exact ⟨by first | rfl | (simp; done) | (simp [*]; done), by repeat (first | exact Drawn0.refl _ | apply Drawn0.step)⟩

end Go.Proofs.Ythkooncibfkepaa.G

/- Contracts typed by hand: the law BatchBuilds: one act, of both sides -/
namespace Go.Proofs.Ythkooncibfkepaa.G
open Go.RowKit Go.Proofs.YthkooncibfkepaaW.PrintWords Go.Proofs.YthkooncibfkepaaW.PrintLast Go.Proofs.YthkooncibfkepaaW.PrintMore
attribute [local go_sem] max2_int min2_int max_two min_two max_three min_three max_four min_four
set_option linter.unusedVariables false
set_option linter.unusedSimpArgs false

/-! the law BatchBuilds: one act, of both sides -/
theorem Put_eq (l : List Op04) (x : Op04) (hv : ∀ y ∈ l, mayB y = true) (hn : l.length ≤ 4096) (k : Nat) (hk : 13 + l.length ≤ k) : moraineref04_Put.f k l x.f0 x.f1 x.f2 = some (addL l x, addE l x) := by
  unfold moraineref04_Put.f
  obtain ⟨k1, rfl⟩ : ∃ k1, k = k1 + 1 := ⟨k - 1, by omega⟩
  rw [May_eq k1 x, Option.bind_some]
  by_cases hm : mayB x = true
  · rw [if_pos hm]
    simp only [Option.bind_some, List.nil_append, List.length_nil]
    rw [if_pos (by omega), if_pos (by simp only [List.length_cons, List.length_nil]; omega)]
    have hl : (l ++ [(⟨x.f0, x.f1, x.f2⟩ : Op04)]).length = l.length + 1 := by simp
    by_cases h1 : 4096 ≤ l.length
    · have hE : addE l x = 3 := by unfold addE; rw [if_pos hm, if_pos (Or.inl h1)]
      have hL : addL l x = l := by unfold addL; rw [hE, if_neg (by decide)]
      rw [if_pos (by rw [hl]; omega), hE, hL]
    · rw [if_neg (by rw [hl]; omega)]
      have hs : Sane (l ++ [x]) := ⟨by rw [List.length_append]; simp only [List.length_cons, List.length_nil]; omega, fun y hy => by
        have hmy : mayB y = true := by
          rcases List.mem_append.1 hy with h | h
          · exact hv y h
          · rw [List.mem_singleton] at h; rw [h]; exact hm
        have := may_sizes y hmy
        omega⟩
      have ht : moraineref04_size.f (k1 + 1) (l ++ [x]) = some ((12 + totN (l ++ [x]) : Nat) : Int) := at_rounds (g := fun k => moraineref04_size.f k (l ++ [x])) (fun k => moraineref04_size.mono _ _) (by rw [List.length_append]; simp only [List.length_cons, List.length_nil]; omega) (refsize_eq _ (l ++ [x]) hs rfl)
      rw [show (⟨x.f0, x.f1, x.f2⟩ : Op04) = x from rfl, ht, Option.bind_some, totN_snoc]
      by_cases h2 : 1048576 < 12 + totN l + szN x
      · have hE : addE l x = 3 := by unfold addE; rw [if_pos hm, if_pos (Or.inr h2)]
        have hL : addL l x = l := by unfold addL; rw [hE, if_neg (by decide)]
        rw [if_pos (by omega), hE, hL]
      · have hE : addE l x = 0 := by unfold addE; rw [if_pos hm, if_neg (by rintro (q | q); exact h1 q; exact h2 q)]
        have hL : addL l x = l ++ [x] := by unfold addL; rw [hE, if_pos rfl]
        rw [if_neg (by omega), hE, hL]
  · have hE : addE l x = 40 := by unfold addE; rw [if_neg hm]
    have hL : addL l x = l := by unfold addL; rw [hE, if_neg (by decide)]
    rw [if_neg hm, hE, hL]
theorem encR_len (seq : Int) (l : List Op04) (hs : Sane l) : (encR seq l).1.length ≤ 4398046511104 := by
  have h1 := totN_le l hs.2
  have h2 := hs.1
  unfold encR
  split
  · split
    · show (encB seq l).length ≤ _
      rw [encB_len]
      omega
    · simp
  · simp
theorem Bytes_eq (l : List Op04) (hv : ∀ y ∈ l, mayB y = true) (hn : l.length ≤ 4096) (k : Nat) (hk : 12 + l.length ≤ k) : moraineref04_Bytes.f k l = some ((12 + totN l : Nat) : Int) := by
  have hs : Sane l := ⟨by omega, fun y hy => by have := may_sizes y (hv y hy); omega⟩
  unfold moraineref04_Bytes.f
  rw [show moraineref04_size.f k l = some ((12 + totN l : Nat) : Int) from at_rounds (g := fun k => moraineref04_size.f k l) (fun k => moraineref04_size.mono _ _) (by omega) (refsize_eq _ l hs rfl), Option.bind_some]
theorem among5 (x : Int) : ∃ r : Int, (r = 0 ∨ r = 1 ∨ r = 2 ∨ r = 3 ∨ r = 4) ∧ morainelaw04_among.f x 5 = some r := by
  unfold morainelaw04_among.f
  rw [if_neg (by omega)]
  have h1 := Int.tmod_lt_of_pos x (show (0 : Int) < 5 by omega)
  have h2 : -(5 : Int) < Int.tmod x 5 := by
    have := Int.lt_tmod_of_pos x (show (0 : Int) < 5 by omega)
    omega
  have h3 : wrap64 (Int.tmod x 5 + 5) = Int.tmod x 5 + 5 := by unfold wrap64; omega
  rw [h3]
  have h4 : 0 ≤ Int.tmod x 5 + 5 := by omega
  rw [Int.tmod_eq_emod_of_nonneg h4]
  have h5 := Int.emod_nonneg (Int.tmod x 5 + 5) (show (5 : Int) ≠ 0 by omega)
  have h6 := Int.emod_lt_of_pos (Int.tmod x 5 + 5) (show (0 : Int) < 5 by omega)
  exact ⟨_, by omega, rfl⟩
theorem op_flat {w : World} {base : Nat} {ok ok' : Nat → Prop} {v : Value} {l : List Op04} (h : Kd.R k65 65 w base ok v l) (hok : ∀ k, v.ownBlock = some k → ok k → ok' k) : Kd.R k65 65 w base ok' v l := by
  refine Kd.R_flat (fun {ok1 ok2 x cs} hx => ?_) h hok
  have := k65_openM hx
  subst this
  exact k65_mkM _ _ _ x
/-- a builder and the list that the document's answer keeps: both have the same operations -/
structure BS (w0 w : World) (g : Nat) (v vo : Value) (l : List Op04) : Prop where
  bu : BuAt w g w0.heap.size v l
  op : Kd.R k65 65 w w0.heap.size (fun k => some k = vo.ownBlock) vo l
  sep : ∀ k, vo.ownBlock = some k → k ≠ g ∧ some k ≠ v.ownBlock
  bel : Below w0.heap.size w0 w
  fit : 12 + totN l ≤ 1048576 ∧ l.length ≤ 4096
  val : ∀ x ∈ l, mayB x = true
theorem BS.below {w0 w w' : World} {g : Nat} {v vo : Value} {l : List Op04} (h : BS w0 w g v vo l) (hb : Below w.heap.size w w') : BS w0 w' g v vo l :=
  ⟨h.bu.below hb, Kd.R_below h.op hb, h.sep, below_step h.bel hb, h.fit, h.val⟩
theorem BS.sane {w0 w : World} {g : Nat} {v vo : Value} {l : List Op04} (h : BS w0 w g v vo l) : Sane l := ⟨by have := h.fit.2; omega, fun y hy => by have := may_sizes y (h.val y hy); omega⟩
theorem addL_val (l : List Op04) (x : Op04) (h : ∀ y ∈ l, mayB y = true) : ∀ y ∈ addL l x, mayB y = true := by
  intro y hy
  unfold addL at hy
  split at hy
  · rename_i h0
    rcases List.mem_append.1 hy with h1 | h1
    · exact h y h1
    · rw [List.mem_singleton] at h1
      rw [h1]
      unfold addE at h0
      split at h0
      · assumption
      · simp at h0
  · exact h y hy
/-- behind the builder's call and the document's -/
theorem BS.both {w0 w w1 w2 : World} {g : Nat} {v v' vo vo' : Value} {l l' : List Op04} (h : BS w0 w g v vo l) (h1 : BuAt w1 g w0.heap.size v' l') (hc : BuCh w w1 g v v')
    (h2 : Kd.R k65 65 w2 w0.heap.size (fun k => some k = vo.ownBlock ∨ w1.heap.size ≤ k) vo' l') (hb2 : Below w0.heap.size w0 w2) (hk : Kept w1 w2 (fun k => some k = vo.ownBlock)) (hf : 12 + totN l' ≤ 1048576 ∧ l'.length ≤ 4096) (hv : ∀ y ∈ l', mayB y = true) : BS w0 w2 g v' vo' l' := by
  have hglt := blk_lt h1.cell
  have hg : ¬ some g = vo.ownBlock := fun e => (h.sep g e.symm).1 rfl
  have hv' : ∀ k, v'.ownBlock = some k → ¬ some k = vo.ownBlock := by
    intro k hk' e
    rcases hc.row with q | q | ⟨b, q1, q2⟩
    · exact (h.sep k e.symm).2 (by rw [← q]; exact hk'.symm)
    · rw [q] at hk'; cases hk'
    · rw [hk'] at q1
      have hkb : k = b := Option.some.inj q1
      have := Kd.R_lt h.op k e.symm
      omega
  refine ⟨⟨(hk.2 g hglt hg).trans h1.cell, ?_, h1.base_le⟩, op_flat h2 (fun k hk' _ => hk'.symm), ?_, hb2, hf, hv⟩
  · have hr := op_flat (ok' := fun k => some k = v'.ownBlock) h1.row (fun k hk' _ => hk'.symm)
    exact Kd.R_mono (Kd.R_kept hr hk (fun k hk' => hv' k hk'.symm)) (fun _ _ => trivial)
  · intro k hk'
    rcases h2.1 k hk' with e | e
    · exact ⟨fun q => hg (q ▸ e), fun q => hv' k q.symm e⟩
    · exact ⟨by omega, fun q => by have := Kd.R_lt h1.row k q.symm; omega⟩
theorem BS.moved {w0 w w1 : World} {g : Nat} {v v' vo : Value} {l l' : List Op04} (h : BS w0 w g v vo l) (h1 : BuAt w1 g w0.heap.size v' l') (hc : BuCh w w1 g v v') : Kd.R k65 65 w1 w0.heap.size (fun k => some k = vo.ownBlock) vo l ∧ Below w0.heap.size w0 w1 :=
  ⟨Kd.R_step h.op (fun k hk hlt => hc.block k hlt (h.sep k hk.symm).1 (h.sep k hk.symm).2), h.bel.trans (hc.bel h.bu)⟩
set_option maxHeartbeats 16000000 in
set_option maxRecDepth 100000 in
theorem does_put (w0 w : World) (g : Nat) (v vo : Value) (l : List Op04) (kd mn sq : Int) (ks vs : ByteArray) (h : BS w0 w g v vo l) (hr : morainelaw04_among.f kd 5 = some 0) : Calls Try.prog 26 #[.pointer (some ⟨g, 0, none⟩), vo, .agg #[.int .i64 kd, .int .i64 mn, .string ks, .string vs, .int .u64 sq]] w fun e w' => ∃ v' vo' l', e = .returned (.tuple #[vo', .bool true]) ∧ BS w0 w' g v' vo' l' := by
  obtain ⟨A, c, rfl, hc, hC⟩ := Kd.R_reads h.op
  obtain ⟨W1, hW1⟩ : ∃ W1, w.alloc (.cells #[.int .i64 kd, .int .i64 mn, .string ks, .string vs, .int .u64 sq] 44) = W1 := ⟨_, rfl⟩
  have hb1 : Below w.heap.size w W1 := by rw [← hW1]; exact below_alloc (Below.refl _ _) _
  have hx1 : W1.heap[w.heap.size]? = some (.cells #[.int .i64 kd, .int .i64 mn, .string ks, .string vs, .int .u64 sq] 44 (0, 0)) := by rw [← hW1]; exact World.alloc_heap_new _ _
  have k0 : W1.cell? ⟨w.heap.size, 0, none⟩ = some (.int .i64 kd) := blk_cell hx1 0
  rw [← hW1] at k0
  have HBS := Aside0.mk (h.below hb1)
  have HX := Aside0.mk hx1
  have HW1 := Aside0.mk hW1
  have HAM := Aside0.mk hr
  clear h hb1 hx1 hW1 hc hC hr
  go_enter Try.func26, Try.ntmps26
  go_wp2_with fail
  rw [HW1.out]
  (with_reducible refine (morainelaw04_among.calls kd 5 _ _ HAM.out).mono ?_)
  rintro e w1 ⟨rfl, hd⟩
  have HBS := Aside0.mk (HBS.out.below hd.below)
  have hx := blk_below HX.out hd.below
  have HX := Aside0.mk hx
  have k2 : w1.cell? ⟨w.heap.size, 2, none⟩ = some (.string ks) := blk_cell hx 2
  have k3 : w1.cell? ⟨w.heap.size, 3, none⟩ = some (.string vs) := blk_cell hx 3
  have k4 : w1.cell? ⟨w.heap.size, 4, none⟩ = some (.int .u64 sq) := blk_cell hx 4
  clear hd hx k0 HW1
  go_wp2_with fail
  (with_reducible refine (bu_put _ g w0.heap.size v l ks vs HBS.out.bu HBS.out.fit.1 HBS.out.bel.size).mono ?_)
  rintro e w2 ⟨v2, rfl, h2, hc2⟩
  obtain ⟨hop2, hbl2⟩ := HBS.out.moved h2 hc2
  have HOP2 := Aside0.mk hop2
  have HBL2 := Aside0.mk hbl2
  have H2 := Aside0.mk h2
  have HCH := Aside0.mk hc2
  have hxx : w2.heap[w.heap.size]? = some (.cells #[.int .i64 kd, .int .i64 mn, .string ks, .string vs, .int .u64 sq] 44 (0, 0)) := by
    refine (hc2.block _ (blk_lt HX.out) (fun e => ?_) (Kd.R_ne HBS.out.bu.row HX.out (by decide))).trans HX.out
    have := HBS.out.bu.cell
    rw [← e, HX.out] at this
    injection this with this
    injection this with _ h2 _
    exact absurd h2 (by decide)
  have k2 : w2.cell? ⟨w.heap.size, 2, none⟩ = some (.string ks) := blk_cell hxx 2
  have k3 : w2.cell? ⟨w.heap.size, 3, none⟩ = some (.string vs) := blk_cell hxx 3
  clear hop2 hbl2 h2 hc2 hxx
  go_wp2_with fail
  (with_reducible refine (moraineref04_Put.calls _ (fun k => some k = (Value.slice A l.length c).ownBlock) _ l _ _ _ _ _ w0 _ HBL2.out HOP2.out (Put_eq l ⟨1, ks, vs⟩ HBS.out.val HBS.out.fit.2 _ (Nat.le_refl _))).mono ?_)
  rintro e w3 ⟨v3, rfl, h3, hb3, hk3⟩
  have HBS := Aside0.mk (HBS.out.both H2.out HCH.out h3 hb3 hk3 (addL_fit l _ HBS.out.fit) (addL_val l _ HBS.out.val))
  clear h3 hb3 hk3 HOP2 HBL2 H2 HCH k2 k3 k4
  obtain ⟨A2, c2, rfl, hc2, _⟩ := Kd.R_reads HBS.out.op
  have HC2 := Aside0.mk hc2
  clear hc2
  generalize addE l ⟨1, ks, vs⟩ = E at *
  generalize addL l ⟨1, ks, vs⟩ = L2 at *
  go_wp2_with fail
  (with_reducible refine (bu_len _ g w0.heap.size _ _ HBS.out.bu).mono ?_)
  rintro e w8 ⟨rfl, hd⟩
  have HBS := Aside0.mk (HBS.out.below hd.below)
  clear hd
  go_wp2_with fail
  (with_reducible refine (bu_size _ g w0.heap.size _ _ HBS.out.bu).mono ?_)
  rintro e w9 ⟨rfl, hd⟩
  have HBS := Aside0.mk (HBS.out.below hd.below)
  clear hd
  go_wp2_with fail
  (with_reducible refine (moraineref04_Bytes.calls _ A2 c2 L2 _ _ (Kd.R_reads' HBS.out.op).2.2 HC2.out (Bytes_eq L2 HBS.out.val HBS.out.fit.2 _ (Nat.le_refl _))).mono ?_)
  rintro e w10 ⟨rfl, hb⟩
  have HBS := Aside0.mk (HBS.out.below hb)
  clear hb
  go_wp2
  refine bodyPost_ret (by simp [results, Try.results26, go_sem]; rfl) rfl ?_
  exact ⟨_, _, _, rfl, HBS.out⟩
set_option maxHeartbeats 16000000 in
set_option maxRecDepth 100000 in
theorem does_del (w0 w : World) (g : Nat) (v vo : Value) (l : List Op04) (kd mn sq : Int) (ks vs : ByteArray) (h : BS w0 w g v vo l) (hr : morainelaw04_among.f kd 5 = some 1) : Calls Try.prog 26 #[.pointer (some ⟨g, 0, none⟩), vo, .agg #[.int .i64 kd, .int .i64 mn, .string ks, .string vs, .int .u64 sq]] w fun e w' => ∃ v' vo' l', e = .returned (.tuple #[vo', .bool true]) ∧ BS w0 w' g v' vo' l' := by
  obtain ⟨A, c, rfl, hc, hC⟩ := Kd.R_reads h.op
  obtain ⟨W1, hW1⟩ : ∃ W1, w.alloc (.cells #[.int .i64 kd, .int .i64 mn, .string ks, .string vs, .int .u64 sq] 44) = W1 := ⟨_, rfl⟩
  have hb1 : Below w.heap.size w W1 := by rw [← hW1]; exact below_alloc (Below.refl _ _) _
  have hx1 : W1.heap[w.heap.size]? = some (.cells #[.int .i64 kd, .int .i64 mn, .string ks, .string vs, .int .u64 sq] 44 (0, 0)) := by rw [← hW1]; exact World.alloc_heap_new _ _
  have k0 : W1.cell? ⟨w.heap.size, 0, none⟩ = some (.int .i64 kd) := blk_cell hx1 0
  rw [← hW1] at k0
  have HBS := Aside0.mk (h.below hb1)
  have HX := Aside0.mk hx1
  have HW1 := Aside0.mk hW1
  have HAM := Aside0.mk hr
  clear h hb1 hx1 hW1 hc hC hr
  go_enter Try.func26, Try.ntmps26
  go_wp2_with fail
  rw [HW1.out]
  (with_reducible refine (morainelaw04_among.calls kd 5 _ _ HAM.out).mono ?_)
  rintro e w1 ⟨rfl, hd⟩
  have HBS := Aside0.mk (HBS.out.below hd.below)
  have hx := blk_below HX.out hd.below
  have HX := Aside0.mk hx
  have k2 : w1.cell? ⟨w.heap.size, 2, none⟩ = some (.string ks) := blk_cell hx 2
  have k3 : w1.cell? ⟨w.heap.size, 3, none⟩ = some (.string vs) := blk_cell hx 3
  have k4 : w1.cell? ⟨w.heap.size, 4, none⟩ = some (.int .u64 sq) := blk_cell hx 4
  clear hd hx k0 HW1
  go_wp2_with fail
  (with_reducible refine (bu_delete _ g w0.heap.size v l ks HBS.out.bu HBS.out.fit.1 HBS.out.bel.size).mono ?_)
  rintro e w2 ⟨v2, rfl, h2, hc2⟩
  obtain ⟨hop2, hbl2⟩ := HBS.out.moved h2 hc2
  have HOP2 := Aside0.mk hop2
  have HBL2 := Aside0.mk hbl2
  have H2 := Aside0.mk h2
  have HCH := Aside0.mk hc2
  have hxx : w2.heap[w.heap.size]? = some (.cells #[.int .i64 kd, .int .i64 mn, .string ks, .string vs, .int .u64 sq] 44 (0, 0)) := by
    refine (hc2.block _ (blk_lt HX.out) (fun e => ?_) (Kd.R_ne HBS.out.bu.row HX.out (by decide))).trans HX.out
    have := HBS.out.bu.cell
    rw [← e, HX.out] at this
    injection this with this
    injection this with _ h2 _
    exact absurd h2 (by decide)
  have k2 : w2.cell? ⟨w.heap.size, 2, none⟩ = some (.string ks) := blk_cell hxx 2
  have k3 : w2.cell? ⟨w.heap.size, 3, none⟩ = some (.string vs) := blk_cell hxx 3
  clear hop2 hbl2 h2 hc2 hxx
  go_wp2_with fail
  (with_reducible refine (moraineref04_Put.calls _ (fun k => some k = (Value.slice A l.length c).ownBlock) _ l _ _ _ _ _ w0 _ HBL2.out HOP2.out (Put_eq l ⟨0, ks, ⟨#[]⟩⟩ HBS.out.val HBS.out.fit.2 _ (Nat.le_refl _))).mono ?_)
  rintro e w3 ⟨v3, rfl, h3, hb3, hk3⟩
  have HBS := Aside0.mk (HBS.out.both H2.out HCH.out h3 hb3 hk3 (addL_fit l _ HBS.out.fit) (addL_val l _ HBS.out.val))
  clear h3 hb3 hk3 HOP2 HBL2 H2 HCH k2 k3 k4
  obtain ⟨A2, c2, rfl, hc2, _⟩ := Kd.R_reads HBS.out.op
  have HC2 := Aside0.mk hc2
  clear hc2
  generalize addE l ⟨0, ks, ⟨#[]⟩⟩ = E at *
  generalize addL l ⟨0, ks, ⟨#[]⟩⟩ = L2 at *
  go_wp2_with fail
  (with_reducible refine (bu_len _ g w0.heap.size _ _ HBS.out.bu).mono ?_)
  rintro e w8 ⟨rfl, hd⟩
  have HBS := Aside0.mk (HBS.out.below hd.below)
  clear hd
  go_wp2_with fail
  (with_reducible refine (bu_size _ g w0.heap.size _ _ HBS.out.bu).mono ?_)
  rintro e w9 ⟨rfl, hd⟩
  have HBS := Aside0.mk (HBS.out.below hd.below)
  clear hd
  go_wp2_with fail
  (with_reducible refine (moraineref04_Bytes.calls _ A2 c2 L2 _ _ (Kd.R_reads' HBS.out.op).2.2 HC2.out (Bytes_eq L2 HBS.out.val HBS.out.fit.2 _ (Nat.le_refl _))).mono ?_)
  rintro e w10 ⟨rfl, hb⟩
  have HBS := Aside0.mk (HBS.out.below hb)
  clear hb
  go_wp2
  refine bodyPost_ret (by simp [results, Try.results26, go_sem]; rfl) rfl ?_
  exact ⟨_, _, _, rfl, HBS.out⟩
set_option maxHeartbeats 16000000 in
set_option maxRecDepth 100000 in
theorem does_range (w0 w : World) (g : Nat) (v vo : Value) (l : List Op04) (kd mn sq : Int) (ks vs : ByteArray) (h : BS w0 w g v vo l) (hr : morainelaw04_among.f kd 5 = some 2) : Calls Try.prog 26 #[.pointer (some ⟨g, 0, none⟩), vo, .agg #[.int .i64 kd, .int .i64 mn, .string ks, .string vs, .int .u64 sq]] w fun e w' => ∃ v' vo' l', e = .returned (.tuple #[vo', .bool true]) ∧ BS w0 w' g v' vo' l' := by
  obtain ⟨A, c, rfl, hc, hC⟩ := Kd.R_reads h.op
  obtain ⟨W1, hW1⟩ : ∃ W1, w.alloc (.cells #[.int .i64 kd, .int .i64 mn, .string ks, .string vs, .int .u64 sq] 44) = W1 := ⟨_, rfl⟩
  have hb1 : Below w.heap.size w W1 := by rw [← hW1]; exact below_alloc (Below.refl _ _) _
  have hx1 : W1.heap[w.heap.size]? = some (.cells #[.int .i64 kd, .int .i64 mn, .string ks, .string vs, .int .u64 sq] 44 (0, 0)) := by rw [← hW1]; exact World.alloc_heap_new _ _
  have k0 : W1.cell? ⟨w.heap.size, 0, none⟩ = some (.int .i64 kd) := blk_cell hx1 0
  rw [← hW1] at k0
  have HBS := Aside0.mk (h.below hb1)
  have HX := Aside0.mk hx1
  have HW1 := Aside0.mk hW1
  have HAM := Aside0.mk hr
  clear h hb1 hx1 hW1 hc hC hr
  go_enter Try.func26, Try.ntmps26
  go_wp2_with fail
  rw [HW1.out]
  (with_reducible refine (morainelaw04_among.calls kd 5 _ _ HAM.out).mono ?_)
  rintro e w1 ⟨rfl, hd⟩
  have HBS := Aside0.mk (HBS.out.below hd.below)
  have hx := blk_below HX.out hd.below
  have HX := Aside0.mk hx
  have k2 : w1.cell? ⟨w.heap.size, 2, none⟩ = some (.string ks) := blk_cell hx 2
  have k3 : w1.cell? ⟨w.heap.size, 3, none⟩ = some (.string vs) := blk_cell hx 3
  have k4 : w1.cell? ⟨w.heap.size, 4, none⟩ = some (.int .u64 sq) := blk_cell hx 4
  clear hd hx k0 HW1
  go_wp2_with fail
  (with_reducible refine (bu_range _ g w0.heap.size v l ks vs HBS.out.bu HBS.out.fit.1 HBS.out.bel.size).mono ?_)
  rintro e w2 ⟨v2, rfl, h2, hc2⟩
  obtain ⟨hop2, hbl2⟩ := HBS.out.moved h2 hc2
  have HOP2 := Aside0.mk hop2
  have HBL2 := Aside0.mk hbl2
  have H2 := Aside0.mk h2
  have HCH := Aside0.mk hc2
  have hxx : w2.heap[w.heap.size]? = some (.cells #[.int .i64 kd, .int .i64 mn, .string ks, .string vs, .int .u64 sq] 44 (0, 0)) := by
    refine (hc2.block _ (blk_lt HX.out) (fun e => ?_) (Kd.R_ne HBS.out.bu.row HX.out (by decide))).trans HX.out
    have := HBS.out.bu.cell
    rw [← e, HX.out] at this
    injection this with this
    injection this with _ h2 _
    exact absurd h2 (by decide)
  have k2 : w2.cell? ⟨w.heap.size, 2, none⟩ = some (.string ks) := blk_cell hxx 2
  have k3 : w2.cell? ⟨w.heap.size, 3, none⟩ = some (.string vs) := blk_cell hxx 3
  clear hop2 hbl2 h2 hc2 hxx
  go_wp2_with fail
  (with_reducible refine (moraineref04_Put.calls _ (fun k => some k = (Value.slice A l.length c).ownBlock) _ l _ _ _ _ _ w0 _ HBL2.out HOP2.out (Put_eq l ⟨2, ks, vs⟩ HBS.out.val HBS.out.fit.2 _ (Nat.le_refl _))).mono ?_)
  rintro e w3 ⟨v3, rfl, h3, hb3, hk3⟩
  have HBS := Aside0.mk (HBS.out.both H2.out HCH.out h3 hb3 hk3 (addL_fit l _ HBS.out.fit) (addL_val l _ HBS.out.val))
  clear h3 hb3 hk3 HOP2 HBL2 H2 HCH k2 k3 k4
  obtain ⟨A2, c2, rfl, hc2, _⟩ := Kd.R_reads HBS.out.op
  have HC2 := Aside0.mk hc2
  clear hc2
  generalize addE l ⟨2, ks, vs⟩ = E at *
  generalize addL l ⟨2, ks, vs⟩ = L2 at *
  go_wp2_with fail
  (with_reducible refine (bu_len _ g w0.heap.size _ _ HBS.out.bu).mono ?_)
  rintro e w8 ⟨rfl, hd⟩
  have HBS := Aside0.mk (HBS.out.below hd.below)
  clear hd
  go_wp2_with fail
  (with_reducible refine (bu_size _ g w0.heap.size _ _ HBS.out.bu).mono ?_)
  rintro e w9 ⟨rfl, hd⟩
  have HBS := Aside0.mk (HBS.out.below hd.below)
  clear hd
  go_wp2_with fail
  (with_reducible refine (moraineref04_Bytes.calls _ A2 c2 L2 _ _ (Kd.R_reads' HBS.out.op).2.2 HC2.out (Bytes_eq L2 HBS.out.val HBS.out.fit.2 _ (Nat.le_refl _))).mono ?_)
  rintro e w10 ⟨rfl, hb⟩
  have HBS := Aside0.mk (HBS.out.below hb)
  clear hb
  go_wp2
  refine bodyPost_ret (by simp [results, Try.results26, go_sem]; rfl) rfl ?_
  exact ⟨_, _, _, rfl, HBS.out⟩
set_option maxHeartbeats 16000000 in
set_option maxRecDepth 100000 in
theorem does_clear (w0 w : World) (g : Nat) (v vo : Value) (l : List Op04) (kd mn sq : Int) (ks vs : ByteArray) (h : BS w0 w g v vo l) (hr : morainelaw04_among.f kd 5 = some 3) : Calls Try.prog 26 #[.pointer (some ⟨g, 0, none⟩), vo, .agg #[.int .i64 kd, .int .i64 mn, .string ks, .string vs, .int .u64 sq]] w fun e w' => ∃ v' vo' l', e = .returned (.tuple #[vo', .bool true]) ∧ BS w0 w' g v' vo' l' := by
  obtain ⟨A, c, rfl, hc, hC⟩ := Kd.R_reads h.op
  obtain ⟨W1, hW1⟩ : ∃ W1, w.alloc (.cells #[.int .i64 kd, .int .i64 mn, .string ks, .string vs, .int .u64 sq] 44) = W1 := ⟨_, rfl⟩
  have hb1 : Below w.heap.size w W1 := by rw [← hW1]; exact below_alloc (Below.refl _ _) _
  have hx1 : W1.heap[w.heap.size]? = some (.cells #[.int .i64 kd, .int .i64 mn, .string ks, .string vs, .int .u64 sq] 44 (0, 0)) := by rw [← hW1]; exact World.alloc_heap_new _ _
  have k0 : W1.cell? ⟨w.heap.size, 0, none⟩ = some (.int .i64 kd) := blk_cell hx1 0
  rw [← hW1] at k0
  have HBS := Aside0.mk (h.below hb1)
  have HX := Aside0.mk hx1
  have HW1 := Aside0.mk hW1
  have HAM := Aside0.mk hr
  clear h hb1 hx1 hW1 hc hC hr
  go_enter Try.func26, Try.ntmps26
  go_wp2_with fail
  rw [HW1.out]
  (with_reducible refine (morainelaw04_among.calls kd 5 _ _ HAM.out).mono ?_)
  rintro e w1 ⟨rfl, hd⟩
  have HBS := Aside0.mk (HBS.out.below hd.below)
  have hx := blk_below HX.out hd.below
  have HX := Aside0.mk hx
  have k2 : w1.cell? ⟨w.heap.size, 2, none⟩ = some (.string ks) := blk_cell hx 2
  have k3 : w1.cell? ⟨w.heap.size, 3, none⟩ = some (.string vs) := blk_cell hx 3
  have k4 : w1.cell? ⟨w.heap.size, 4, none⟩ = some (.int .u64 sq) := blk_cell hx 4
  clear hd hx k0 HW1
  go_wp2_with fail
  (with_reducible refine (bu_clear _ g w0.heap.size v l HBS.out.bu).mono ?_)
  rintro e w2 ⟨⟨r, rfl⟩, h2, hc2⟩
  have HBS := Aside0.mk (show BS w0 w2 g (.slice none 0 0) (.slice none 0 0) ([] : List Op04) from ⟨h2, Kd.R_nil _ _ _ _ _, fun k hk => by simp [Value.ownBlock] at hk, HBS.out.bel.trans (hc2.bel HBS.out.bu), ⟨by simp [totN], by simp⟩, fun x hx => by simp at hx⟩)
  have HL0 := Aside0.mk (show Calls Try.prog 24 #[.pointer (some ⟨g, 0, none⟩)] w2 fun e w' => e = .returned (.int .i64 0) ∧ Drawn0 w2 w' from bu_len _ g w0.heap.size _ _ h2)
  have HS0 := Aside0.mk (fun W (hb : Below w2.heap.size w2 W) => (show Calls Try.prog 25 #[.pointer (some ⟨g, 0, none⟩)] W fun e w' => e = .returned (.int .i64 12) ∧ Drawn0 W w' from bu_size _ g w0.heap.size _ _ (h2.below hb)))
  have HY0 := Aside0.mk (fun W => (show Calls Try.prog 61 #[.slice none 0 0] W fun e w' => e = .returned (.int .i64 12) ∧ Below W.heap.size W w' from moraineref04_Bytes.calls 12 none 0 [] _ W (Kd.C_nil _ _) (Nat.le_refl _) (Bytes_eq [] (fun y hy => by simp at hy) (by simp) 12 (by simp))))
  clear h2 hc2 k2 k3 k4
  go_wp2_with fail
  (with_reducible refine HL0.out.mono ?_)
  rintro e w8 ⟨rfl, hd⟩
  have HBS := Aside0.mk (HBS.out.below hd.below)
  have HB8 := Aside0.mk hd.below
  clear hd
  go_wp2_with fail
  (with_reducible refine (HS0.out _ HB8.out).mono ?_)
  rintro e w9 ⟨rfl, hd⟩
  have HBS := Aside0.mk (HBS.out.below hd.below)
  clear hd
  go_wp2_with fail
  (with_reducible refine (HY0.out _).mono ?_)
  rintro e w10 ⟨rfl, hb⟩
  have HBS := Aside0.mk (HBS.out.below hb)
  clear hb
  go_wp2
  refine bodyPost_ret (by simp [results, Try.results26, go_sem]; rfl) rfl ?_
  exact ⟨_, _, _, rfl, HBS.out⟩
set_option maxHeartbeats 16000000 in
set_option maxRecDepth 100000 in
theorem does_bytes (w0 w : World) (g : Nat) (v vo : Value) (l : List Op04) (kd mn sq : Int) (ks vs : ByteArray) (h : BS w0 w g v vo l) (hq : 0 ≤ sq) (hr : morainelaw04_among.f kd 5 = some 4) : Calls Try.prog 26 #[.pointer (some ⟨g, 0, none⟩), vo, .agg #[.int .i64 kd, .int .i64 mn, .string ks, .string vs, .int .u64 sq]] w fun e w' => ∃ v' vo' l', e = .returned (.tuple #[vo', .bool true]) ∧ BS w0 w' g v' vo' l' := by
  obtain ⟨A, c, rfl, hc, hC⟩ := Kd.R_reads h.op
  obtain ⟨W1, hW1⟩ : ∃ W1, w.alloc (.cells #[.int .i64 kd, .int .i64 mn, .string ks, .string vs, .int .u64 sq] 44) = W1 := ⟨_, rfl⟩
  have hb1 : Below w.heap.size w W1 := by rw [← hW1]; exact below_alloc (Below.refl _ _) _
  have hx1 : W1.heap[w.heap.size]? = some (.cells #[.int .i64 kd, .int .i64 mn, .string ks, .string vs, .int .u64 sq] 44 (0, 0)) := by rw [← hW1]; exact World.alloc_heap_new _ _
  have k0 : W1.cell? ⟨w.heap.size, 0, none⟩ = some (.int .i64 kd) := blk_cell hx1 0
  rw [← hW1] at k0
  have HBS := Aside0.mk (h.below hb1)
  have HX := Aside0.mk hx1
  have HW1 := Aside0.mk hW1
  have HAM := Aside0.mk hr
  clear h hb1 hx1 hW1 hc hC hr
  go_enter Try.func26, Try.ntmps26
  go_wp2_with fail
  rw [HW1.out]
  (with_reducible refine (morainelaw04_among.calls kd 5 _ _ HAM.out).mono ?_)
  rintro e w1 ⟨rfl, hd⟩
  have HBS := Aside0.mk (HBS.out.below hd.below)
  have hx := blk_below HX.out hd.below
  have HX := Aside0.mk hx
  have k2 : w1.cell? ⟨w.heap.size, 2, none⟩ = some (.string ks) := blk_cell hx 2
  have k3 : w1.cell? ⟨w.heap.size, 3, none⟩ = some (.string vs) := blk_cell hx 3
  have k4 : w1.cell? ⟨w.heap.size, 4, none⟩ = some (.int .u64 sq) := blk_cell hx 4
  clear hd hx k0 HW1
  have HE := Aside0.mk (encode_eq (13 + 2 * l.length) sq l hq HBS.out.sane (by omega))
  have HF := Aside0.mk (refencode_eq (13 + 2 * l.length) sq l hq HBS.out.sane (Nat.le_refl _))
  have HRL := Aside0.mk (encR_len sq l HBS.out.sane)
  obtain ⟨⟨r, f⟩, hrf⟩ : ∃ rf, encR sq l = rf := ⟨_, rfl⟩
  rw [hrf] at HE HF HRL
  have HLC := Aside0.mk (Kd.R_reads' HBS.out.op).2.1
  clear hrf hq
  go_wp2_with fail
  (with_reducible refine (bu_bytes _ g w0.heap.size _ l sq HBS.out.bu _ _ _ HE.out).mono ?_)
  rintro e w2 ⟨v2, rfl, ho, hb⟩
  have HA2 := Aside0.mk ho
  have HB2 := Aside0.mk hb
  have hx := blk_below HX.out hb
  have k4 : w2.cell? ⟨w.heap.size, 4, none⟩ = some (.int .u64 sq) := blk_cell hx 4
  clear ho hb hx k2 k3
  go_wp2_with fail
  (with_reducible refine (moraineref04_Encode.calls _ sq A c l _ _ _ (Kd.R_reads' (HBS.out.below HB2.out).op).2.2 HLC.out HF.out).mono ?_)
  rintro e w3 ⟨v3, rfl, ho, hb⟩
  have HA2 := Aside0.mk (Kd.R_below HA2.out hb)
  have HB3 := Aside0.mk (below_step HB2.out hb)
  have hcv2 := own_string (P := Try.prog) Try.underlying33 Try.underlying5 Try.underlying9 (Kd.own_of_R HA2.out)
  have hcv3 := own_string (P := Try.prog) Try.underlying33 Try.underlying5 Try.underlying9 (Kd.own_of_R ho)
  obtain ⟨B2, d2, rfl⟩ := Kd.R_slice HA2.out
  obtain ⟨B3, d3, rfl⟩ := Kd.R_slice ho
  clear ho hb k4 HE HF
  generalize hn : r.length = n at *
  have HN := Aside0.mk hn
  have HRL2 := HRL.out
  clear hn
  go_wp2
  clear hcv2 hcv3
  go_loopw [14] (fun v14 wr => ∃ (j : Nat) (xs : List Int), v14 = .int .i64 (j : Int) ∧ j ≤ n ∧ Aside0 (xs.length = n) ∧ Aside0 (Kd.R (Kd.int .u8) 5 wr w1.heap.size (fun _ => True) (.slice B2 n d2) xs) ∧ Aside0 (Below w1.heap.size w1 wr)) (fun v14 _ => n - (intOf v14).toNat)
  case atStart => exact ⟨0, _, rfl, by omega, HN, HA2, HB3⟩
  case round =>
    clear HA2 HB3 HB2
    obtain ⟨j, xs, rfl, hjn, HXL, HX, HB⟩ := hrel
    by_cases hlt : j < n
    · have b1 : decide ((j : Int) < (n : Int)) = true := decide_eq_true (by omega)
      obtain ⟨g2, cg, eg, gb, gl, _⟩ := Kd.R_form HX.out (by have := HXL.out; omega)
      injection eg with ea en ec
      subst ea
      clear en ec
      have GB := Aside0.mk gb
      obtain ⟨hx, hf⟩ := Kd.R_celln 0 HX.out (j : Int) (by omega) (by omega)
      rw [Int.toNat_natCast] at hx hf
      obtain ⟨u, hu⟩ : ∃ u, rdOf 0 xs (j : Int) = u := ⟨_, rfl⟩
      rw [hu] at hx
      have HP := Kd.R_putg HX.out (j : Int) (IntKind.u8.wrap (u + 1))
      rw [Int.toNat_natCast] at HP
      have HP2 := Aside0.mk HP
      have ew : wrap64 ((j : Int) + 1) = ((j + 1 : Nat) : Int) := by unfold wrap64; omega
      have HXL2 := Aside0.mk (show (xs.set j (IntKind.u8.wrap (u + 1))).length = n by rw [List.length_set]; exact HXL.out)
      clear hu gb gl HP
      go_wp2_with (first | ((with_reducible refine gate_store (t := 5) (p := 112) rfl ?_); refine store_event (t := 5) (p := 112) (v := ?vo) (w1 := (wr.setCell ⟨g2, j, none⟩ (.int .u8 (IntKind.u8.wrap (u + 1))))) ?hg ?ho ?hn ?hr ?_; (case ho => rfl); (case hg => rfl); (case hn => rfl); (case hr => first | (go_simp; done) | (go_simp; rfl)); intro w13 hw; have HX2 := Aside0.mk (show Kd.R (Kd.int .u8) 5 w13 w1.heap.size (fun _ => True) (.slice (some ⟨g2, 0, none⟩) n d2) (xs.set j (IntKind.u8.wrap (u + 1))) by rw [hw]; exact HP2.out.1); have HG13 := Aside0.mk (show wr.grownBy w13 (some g2) by rw [hw]; exact HP2.out.2); have HB13 := Aside0.mk (HB.out.grown HG13.out HB.out.size (fun k_ e_ => (Option.some.inj e_) ▸ GB.out)); clear hw))
      go_roundw
      case rel => exact ⟨j + 1, _, congrArg (Value.int .i64) (show ((j : Int) + 1) = ((j + 1 : Nat) : Int) by omega), hlt, HXL2, HX2, HB13⟩
      case measure =>
        show n - ((j : Int) + 1).toNat < n - (j : Int).toNat
        clear ew
        omega
    · have b1 : decide ((j : Int) < (n : Int)) = false := decide_eq_false (by omega)
      have HBS := Aside0.mk (HBS.out.below HB.out)
      clear HX HXL HB
      go_wp2_with fail
      (with_reducible refine (bu_len _ g w0.heap.size _ _ HBS.out.bu).mono ?_)
      rintro e w8 ⟨rfl, hd⟩
      have HBS := Aside0.mk (HBS.out.below hd.below)
      clear hd
      go_wp2_with fail
      (with_reducible refine (bu_size _ g w0.heap.size _ _ HBS.out.bu).mono ?_)
      rintro e w9 ⟨rfl, hd⟩
      have HBS := Aside0.mk (HBS.out.below hd.below)
      clear hd
      go_wp2_with fail
      (with_reducible refine (moraineref04_Bytes.calls _ A c l _ _ (Kd.R_reads' HBS.out.op).2.2 HLC.out (Bytes_eq l HBS.out.val HBS.out.fit.2 _ (Nat.le_refl _))).mono ?_)
      rintro e w10 ⟨rfl, hb⟩
      have HBS := Aside0.mk (HBS.out.below hb)
      clear hb
      go_wp2
      refine bodyPost_ret (by simp [results, Try.results26, go_sem]; rfl) rfl ?_
      exact ⟨_, _, _, rfl, HBS.out⟩
theorem does_calls (w0 w : World) (g : Nat) (v vo : Value) (l : List Op04) (kd mn sq : Int) (ks vs : ByteArray) (h : BS w0 w g v vo l) (hq : 0 ≤ sq) : Calls Try.prog 26 #[.pointer (some ⟨g, 0, none⟩), vo, .agg #[.int .i64 kd, .int .i64 mn, .string ks, .string vs, .int .u64 sq]] w fun e w' => ∃ v' vo' l', e = .returned (.tuple #[vo', .bool true]) ∧ BS w0 w' g v' vo' l' := by
  obtain ⟨r, hr, hk⟩ := among5 kd
  rcases hr with rfl | rfl | rfl | rfl | rfl
  · exact does_put w0 w g v vo l kd mn sq ks vs h hk
  · exact does_del w0 w g v vo l kd mn sq ks vs h hk
  · exact does_range w0 w g v vo l kd mn sq ks vs h hk
  · exact does_clear w0 w g v vo l kd mn sq ks vs h hk
  · exact does_bytes w0 w g v vo l kd mn sq ks vs h hq hk

end Go.Proofs.Ythkooncibfkepaa.G

/- Contracts typed by hand: batch.Builder that no call gave -/
namespace Go.Proofs.Ythkooncibfkepaa.G
open Go.RowKit Go.Proofs.YthkooncibfkepaaW.PrintWords Go.Proofs.YthkooncibfkepaaW.PrintLast Go.Proofs.YthkooncibfkepaaW.PrintMore
attribute [local go_sem] max2_int min2_int max_two min_two max_three min_three max_four min_four
set_option linter.unusedVariables false
set_option linter.unusedSimpArgs false

/-! batch.Builder that no call gave -/
def NobB (w : World) (p : Option Addr) : Prop := p = none ∨ ∃ g, p = some ⟨g, 0, none⟩ ∧ w.heap[g]? = some (.cells #[.bool false, .slice none 0 0, .int .i64 0] 49 (0, 0))
theorem NobB.below {w w' : World} {p : Option Addr} (h : NobB w p) (hb : Below w.heap.size w w') : NobB w' p := h.imp id fun ⟨g, h1, h2⟩ => ⟨g, h1, blk_below h2 hb⟩
set_option maxHeartbeats 4000000 in
theorem none_add (p : Option Addr) (x0 : Int) (x1 x2 : ByteArray) (w : World) (h : NobB w p) : Calls Try.prog 62 #[.pointer p, .agg #[.int .i64 x0, .string x1, .string x2]] w fun e w' => e = .returned (.int .i64 1) ∧ Below w.heap.size w w' := by
  have HB0 := Aside0.mk (below_alloc (Below.refl w.heap.size w) (.cells #[.int .i64 x0, .string x1, .string x2] 65))
  have h := h.below HB0.out
  rcases h with rfl | ⟨g, rfl, hg⟩
  · skip
    go_enter Try.func62, Try.ntmps62
    go_wp2
    go_ret
    exact ⟨rfl, HB0.out⟩
  · have c0 := blk_cell hg 0
    have c1 := blk_cell hg 1
    have c2 := blk_cell hg 2
    clear hg
    go_enter Try.func62, Try.ntmps62
    go_wp2
    go_ret
    exact ⟨rfl, HB0.out⟩
set_option maxHeartbeats 4000000 in
theorem none_len (p : Option Addr) (w : World) (h : NobB w p) : Calls Try.prog 24 #[.pointer p] w fun e w' => e = .returned (.int .i64 0) ∧ Below w.heap.size w w' := by
  rcases h with rfl | ⟨g, rfl, hg⟩
  · skip
    go_enter Try.func24, Try.ntmps24
    go_wp2
    go_ret
    exact ⟨rfl, Below.refl _ _⟩
  · have c0 := blk_cell hg 0
    have c1 := blk_cell hg 1
    have c2 := blk_cell hg 2
    clear hg
    go_enter Try.func24, Try.ntmps24
    go_wp2
    go_ret
    exact ⟨rfl, Below.refl _ _⟩
set_option maxHeartbeats 4000000 in
theorem none_size (p : Option Addr) (w : World) (h : NobB w p) : Calls Try.prog 25 #[.pointer p] w fun e w' => e = .returned (.int .i64 0) ∧ Below w.heap.size w w' := by
  rcases h with rfl | ⟨g, rfl, hg⟩
  · skip
    go_enter Try.func25, Try.ntmps25
    go_wp2
    go_ret
    exact ⟨rfl, Below.refl _ _⟩
  · have c0 := blk_cell hg 0
    have c1 := blk_cell hg 1
    have c2 := blk_cell hg 2
    clear hg
    go_enter Try.func25, Try.ntmps25
    go_wp2
    go_ret
    exact ⟨rfl, Below.refl _ _⟩
set_option maxHeartbeats 4000000 in
theorem none_bytes (p : Option Addr) (sq : Int) (w : World) (h : NobB w p) : Calls Try.prog 27 #[.pointer p, .int .u64 sq] w fun e w' => e = .returned (.tuple #[.slice none 0 0, .int .i64 1]) ∧ Below w.heap.size w w' := by
  rcases h with rfl | ⟨g, rfl, hg⟩
  · skip
    go_enter Try.func27, Try.ntmps27
    go_wp2
    refine bodyPost_ret (by simp [results, Try.results27, go_sem]; rfl) rfl ?_
    exact ⟨rfl, Below.refl _ _⟩
  · have c0 := blk_cell hg 0
    have c1 := blk_cell hg 1
    have c2 := blk_cell hg 2
    clear hg
    go_enter Try.func27, Try.ntmps27
    go_wp2
    refine bodyPost_ret (by simp [results, Try.results27, go_sem]; rfl) rfl ?_
    exact ⟨rfl, Below.refl _ _⟩
set_option maxHeartbeats 4000000 in
theorem none_put (p : Option Addr) (ks vs : ByteArray) (w : World) (h : NobB w p) : Calls Try.prog 29 #[.pointer p, .string ks, .string vs] w fun e w' => e = .returned (.int .i64 1) ∧ Below w.heap.size w w' := by
  have HA := Aside0.mk (none_add p 1 ks vs w h)
  clear h
  go_enter Try.func29, Try.ntmps29
  go_wp2_with fail
  (with_reducible refine HA.out.mono ?_)
  rintro e w1 ⟨rfl, hb⟩
  have HB := Aside0.mk hb
  clear hb
  go_wp2
  go_ret
  exact ⟨rfl, HB.out⟩
set_option maxHeartbeats 4000000 in
theorem none_delete (p : Option Addr) (ks : ByteArray) (w : World) (h : NobB w p) : Calls Try.prog 30 #[.pointer p, .string ks] w fun e w' => e = .returned (.int .i64 1) ∧ Below w.heap.size w w' := by
  have HA := Aside0.mk (none_add p 0 ks ⟨#[]⟩ w h)
  clear h
  go_enter Try.func30, Try.ntmps30
  go_wp2_with fail
  (with_reducible refine HA.out.mono ?_)
  rintro e w1 ⟨rfl, hb⟩
  have HB := Aside0.mk hb
  clear hb
  go_wp2
  go_ret
  exact ⟨rfl, HB.out⟩
set_option maxHeartbeats 4000000 in
theorem none_range (p : Option Addr) (ks vs : ByteArray) (w : World) (h : NobB w p) : Calls Try.prog 31 #[.pointer p, .string ks, .string vs] w fun e w' => e = .returned (.int .i64 1) ∧ Below w.heap.size w w' := by
  have HA := Aside0.mk (none_add p 2 ks vs w h)
  clear h
  go_enter Try.func31, Try.ntmps31
  go_wp2_with fail
  (with_reducible refine HA.out.mono ?_)
  rintro e w1 ⟨rfl, hb⟩
  have HB := Aside0.mk hb
  clear hb
  go_wp2
  go_ret
  exact ⟨rfl, HB.out⟩
set_option maxHeartbeats 4000000 in
theorem none_clear (p : Option Addr) (w : World) (h : NobB w p) : Calls Try.prog 28 #[.pointer p] w fun e w' => (∃ r, e = .returned r) ∧ Below w.heap.size w w' := by
  rcases h with rfl | ⟨g, rfl, hg⟩
  · go_enter Try.func28, Try.ntmps28
    go_wp2
    go_end0
    exact ⟨⟨_, rfl⟩, Below.refl _ _⟩
  · have c0 := blk_cell hg 0
    clear hg
    go_enter Try.func28, Try.ntmps28
    go_wp2
    go_end0
    exact ⟨⟨_, rfl⟩, Below.refl _ _⟩

end Go.Proofs.Ythkooncibfkepaa.G

/- Printed by the session's program over the kit's print, out of the translation: functions as plain Lean functions, and the proofs that the calls come to them. -/
namespace Go.Proofs.Ythkooncibfkepaa.G
open Go.RowKit Go.Proofs.YthkooncibfkepaaW.PrintWords Go.Proofs.YthkooncibfkepaaW.PrintLast Go.Proofs.YthkooncibfkepaaW.PrintMore
attribute [local go_sem] max2_int min2_int max_two min_two max_three min_three max_four min_four   -- for this text's walks alone
set_option linter.unusedVariables false
set_option linter.unusedSimpArgs false

/-! ### morainelaw04_names: function 14 -/
def morainelaw04_names.f  : Option (Bool) := some true
set_option maxHeartbeats 8000000 in
set_option maxRecDepth 100000 in
theorem morainelaw04_names.calls  (r : Bool) (w : World) (h : morainelaw04_names.f  = some r) :
    Calls Try.prog 14 #[] w fun e w' => e = .returned (.bool r) ∧ Drawn0 w w' := by
  have H : (some true) = some r := h
  clear h
  obtain rfl := Option.some.inj H
  go_enter Try.func14, Try.ntmps14
  go_wp2
  go_ret
  exact ⟨by first | rfl | (simp; done) | (simp [*]; done), by repeat (first | exact Drawn0.refl _ | apply Drawn0.step)⟩

end Go.Proofs.Ythkooncibfkepaa.G

/- Contracts typed by hand: the law BatchBuilds: a Builder under any calls -/
namespace Go.Proofs.Ythkooncibfkepaa.G
open Go.RowKit Go.Proofs.YthkooncibfkepaaW.PrintWords Go.Proofs.YthkooncibfkepaaW.PrintLast Go.Proofs.YthkooncibfkepaaW.PrintMore
attribute [local go_sem] max2_int min2_int max_two min_two max_three min_three max_four min_four
set_option linter.unusedVariables false
set_option linter.unusedSimpArgs false

/-! the law BatchBuilds: a Builder under any calls -/
theorem min_le_l (a b : Int) : min a b ≤ b := Int.min_le_right a b
set_option maxHeartbeats 64000000 in
set_option maxRecDepth 100000 in
theorem BatchBuilds_calls (A0 : Option Addr) (c0 : Nat) (l0 : List S44) (w : World) (hc0 : l0.length ≤ c0) (hr0 : Kd.C k44 w A0 l0.length l0) (hl : l0.length ≤ 1048576) (hq : ∀ i : Nat, i < l0.length → 0 ≤ (rd_T44 l0 (i : Int)).f4) :
    Calls Try.prog 5 #[.slice A0 l0.length c0] w fun e w' => e = .returned (.bool true) ∧ Below w.heap.size w w' := by
  have HR := Aside0.mk hr0
  have HC := Aside0.mk hc0
  have HQ := Aside0.mk hq
  clear hr0 hc0 hq
  generalize hn : l0.length = n at *
  have HN := Aside0.mk hn
  clear hn
  go_enter Try.func5, Try.ntmps5
  go_wp2_with fail
  (with_reducible refine (bu_new w).mono ?_)
  rintro e w1 ⟨rfl, h1, hb⟩
  have HBS := Aside0.mk (show BS w w1 w.heap.size (.slice none 0 0) (.slice none 0 0) ([] : List Op04) from ⟨h1, Kd.R_nil _ _ _ _ _, fun k hk => by simp [Value.ownBlock] at hk, hb, ⟨by simp [totN], by simp⟩, fun x hx => by simp at hx⟩)
  clear h1 hb
  go_wp2_with fail
  (with_reducible refine (morainelaw04_names.calls true _ rfl).mono ?_)
  rintro e w2 ⟨rfl, hd⟩
  have HBS := Aside0.mk (HBS.out.below hd.below)
  clear hd
  go_wp2_with fail
  have HZ := Aside0.mk (show Calls Try.prog 24 #[.pointer (some ⟨w.heap.size, 0, none⟩)] w2 fun e w' => e = .returned (.int .i64 0) ∧ Drawn0 w2 w' from bu_len _ _ w.heap.size _ _ HBS.out.bu)
  (with_reducible refine HZ.out.mono ?_)
  rintro e w3 ⟨rfl, hd⟩
  have HBS := Aside0.mk (HBS.out.below hd.below)
  clear hd
  go_wp2_with fail
  have HZ := Aside0.mk (show Calls Try.prog 25 #[.pointer (some ⟨w.heap.size, 0, none⟩)] w3 fun e w' => e = .returned (.int .i64 12) ∧ Drawn0 w3 w' from bu_size _ _ w.heap.size _ _ HBS.out.bu)
  (with_reducible refine HZ.out.mono ?_)
  rintro e w4 ⟨rfl, hd⟩
  have HBS := Aside0.mk (HBS.out.below hd.below)
  clear hd
  go_wp2_with fail
  go_loopw [4, 5, 6, 7] (fun v4 v5 v6 v7 wr => ∃ (i : Nat) (left : Int) (v : Value) (l : List Op04), v5 = .bool true ∧ v6 = .int .i64 left ∧ v7 = .int .i64 (i : Int) ∧ i ≤ n ∧ 0 ≤ left ∧ left ≤ 4200 ∧ Aside0 (BS w wr w.heap.size v v4 l)) (fun _ _ _ v7 _ => n - (intOf v7).toNat)
  case atStart => exact ⟨0, 4200, _, _, rfl, rfl, rfl, by omega, by omega, by omega, HBS⟩
  case round =>
    clear HBS
    obtain ⟨i, left, v, l, rfl, rfl, rfl, hi, hl0, hl1, HBS⟩ := hrel
    by_cases hlt : i < n
    · have b1 : decide ((i : Int) < (n : Int)) = true := decide_eq_true (by omega)
      have b2 : decide (i < n) = true := decide_eq_true hlt
      have p1 : (i : Int) < (n : Int) := by omega
      have HAT := Aside0.mk (fun (W : World) (hb : Below w.heap.size w W) => at_T44 (Kd.C_below HR.out hb) (i : Int) (by omega) (by omega))
      have hsq := HQ.out i hlt
      obtain ⟨x, hx⟩ : ∃ x, rd_T44 l0 (i : Int) = x := ⟨_, rfl⟩
      rw [hx] at HAT hsq
      obtain ⟨kd, mn, ks, vs, sq⟩ := x
      have HSQ := Aside0.mk (show 0 ≤ sq from hsq)
      clear hx hsq
      obtain ⟨ad, hA, _⟩ := HAT.out wr HBS.out.bel
      subst hA
      have HAD := Aside0.mk (show ∀ W : World, Below w.heap.size w W → W.cell? (ad.add (i * 5)) = some (.int .i64 kd) ∧ W.cell? ⟨(ad.add (i * 5)).block, (ad.add (i * 5)).off + 1, none⟩ = some (.int .i64 mn) ∧ W.cell? ⟨(ad.add (i * 5)).block, (ad.add (i * 5)).off + 2, none⟩ = some (.string ks) ∧ W.cell? ⟨(ad.add (i * 5)).block, (ad.add (i * 5)).off + 3, none⟩ = some (.string vs) ∧ W.cell? ⟨(ad.add (i * 5)).block, (ad.add (i * 5)).off + 4, none⟩ = some (.int .u64 sq) from fun W hb => by
        obtain ⟨ad2, hA2, h⟩ := HAT.out W hb
        obtain rfl := Option.some.inj hA2
        rw [Int.toNat_natCast] at h
        exact h)
      clear HAT
      obtain ⟨a0, a1, a2, a3, a4⟩ := HAD.out wr HBS.out.bel
      by_cases hm : mn > 0
      · have d1 : decide (0 < mn) = true := decide_eq_true hm
        rcases Int.lt_trichotomy mn left with hc | hc | hc
        · have d2 : decide (mn < left) = true := decide_eq_true hc
          have d3 : decide (left < mn) = false := decide_eq_false (by omega)
          go_wp2
          have hLE : 0 ≤ left - (1 + mn - 1) ∧ left - (1 + mn - 1) ≤ 4200 := by omega
          have hM : 1 ≤ 1 + mn ∧ 1 + mn ≤ 4201 := by omega
          generalize left - (1 + mn - 1) = LE at *
          generalize 1 + mn = M at *
          clear d1 d2 d3 hc b1 b2 a0 a1 a2 a3 a4
          go_loopw [4, 5, 9] (fun v4 v5 v9 ws => ∃ (k : Int) (v2 : Value) (l2 : List Op04), v5 = .bool true ∧ v9 = .int .i64 k ∧ 0 ≤ k ∧ k ≤ M ∧ Aside0 (BS w ws w.heap.size v2 v4 l2)) (fun _ _ v9 _ => (M - intOf v9).toNat)
          case atStart => exact ⟨0, _, _, rfl, rfl, by omega, by omega, HBS⟩
          case round =>
            clear HBS
            obtain ⟨k, v2, l2, rfl, rfl, hk0, hk1, HBS⟩ := hrel
            by_cases hk : k < M
            · have e1 : decide (k < M) = true := decide_eq_true hk
              obtain ⟨a0, a1, a2, a3, a4⟩ := HAD.out _ HBS.out.bel
              go_wp2_with fail
              (with_reducible refine (does_calls w _ w.heap.size _ _ _ kd mn sq ks vs HBS.out HSQ.out).mono ?_)
              rintro e w5 ⟨v', vo', l', rfl, h⟩
              have HBS := Aside0.mk h
              clear h
              go_wp2
              go_roundw
              case rel => exact ⟨k + 1, _, _, rfl, by first | rfl | go_num, by omega, by omega, HBS⟩
              case measure =>
                show (M - (k + 1)).toNat < (M - k).toNat
                omega
            · have e1 : decide (k < M) = false := decide_eq_false hk
              go_wp2
              go_roundw
              case rel => exact ⟨i + 1, LE, _, _, rfl, rfl, by first | rfl | go_num, hlt, hLE.1, hLE.2, HBS⟩
              case measure => simp only [intOf]; omega
        · subst hc
          have d2 : decide (mn < mn) = false := decide_eq_false (by omega)
          go_wp2
          have hLE : 0 ≤ mn - (1 + mn - 1) ∧ mn - (1 + mn - 1) ≤ 4200 := by omega
          have hM : 1 ≤ 1 + mn ∧ 1 + mn ≤ 4201 := by omega
          generalize mn - (1 + mn - 1) = LE at *
          generalize 1 + mn = M at *
          clear d1 d2 b1 b2 a0 a1 a2 a3 a4
          go_loopw [4, 5, 9] (fun v4 v5 v9 ws => ∃ (k : Int) (v2 : Value) (l2 : List Op04), v5 = .bool true ∧ v9 = .int .i64 k ∧ 0 ≤ k ∧ k ≤ M ∧ Aside0 (BS w ws w.heap.size v2 v4 l2)) (fun _ _ v9 _ => (M - intOf v9).toNat)
          case atStart => exact ⟨0, _, _, rfl, rfl, by omega, by omega, HBS⟩
          case round =>
            clear HBS
            obtain ⟨k, v2, l2, rfl, rfl, hk0, hk1, HBS⟩ := hrel
            by_cases hk : k < M
            · have e1 : decide (k < M) = true := decide_eq_true hk
              obtain ⟨a0, a1, a2, a3, a4⟩ := HAD.out _ HBS.out.bel
              go_wp2_with fail
              (with_reducible refine (does_calls w _ w.heap.size _ _ _ kd mn sq ks vs HBS.out HSQ.out).mono ?_)
              rintro e w5 ⟨v', vo', l', rfl, h⟩
              have HBS := Aside0.mk h
              clear h
              go_wp2
              go_roundw
              case rel => exact ⟨k + 1, _, _, rfl, by first | rfl | go_num, by omega, by omega, HBS⟩
              case measure =>
                show (M - (k + 1)).toNat < (M - k).toNat
                omega
            · have e1 : decide (k < M) = false := decide_eq_false hk
              go_wp2
              go_roundw
              case rel => exact ⟨i + 1, LE, _, _, rfl, rfl, by first | rfl | go_num, hlt, hLE.1, hLE.2, HBS⟩
              case measure => simp only [intOf]; omega
        · have d2 : decide (mn < left) = false := decide_eq_false (by omega)
          have d3 : decide (left < mn) = true := decide_eq_true hc
          go_wp2
          have hLE : 0 ≤ left - (1 + left - 1) ∧ left - (1 + left - 1) ≤ 4200 := by omega
          have hM : 1 ≤ 1 + left ∧ 1 + left ≤ 4201 := by omega
          generalize left - (1 + left - 1) = LE at *
          generalize 1 + left = M at *
          clear d1 d2 d3 hc b1 b2 a0 a1 a2 a3 a4
          go_loopw [4, 5, 9] (fun v4 v5 v9 ws => ∃ (k : Int) (v2 : Value) (l2 : List Op04), v5 = .bool true ∧ v9 = .int .i64 k ∧ 0 ≤ k ∧ k ≤ M ∧ Aside0 (BS w ws w.heap.size v2 v4 l2)) (fun _ _ v9 _ => (M - intOf v9).toNat)
          case atStart => exact ⟨0, _, _, rfl, rfl, by omega, by omega, HBS⟩
          case round =>
            clear HBS
            obtain ⟨k, v2, l2, rfl, rfl, hk0, hk1, HBS⟩ := hrel
            by_cases hk : k < M
            · have e1 : decide (k < M) = true := decide_eq_true hk
              obtain ⟨a0, a1, a2, a3, a4⟩ := HAD.out _ HBS.out.bel
              go_wp2_with fail
              (with_reducible refine (does_calls w _ w.heap.size _ _ _ kd mn sq ks vs HBS.out HSQ.out).mono ?_)
              rintro e w5 ⟨v', vo', l', rfl, h⟩
              have HBS := Aside0.mk h
              clear h
              go_wp2
              go_roundw
              case rel => exact ⟨k + 1, _, _, rfl, by first | rfl | go_num, by omega, by omega, HBS⟩
              case measure =>
                show (M - (k + 1)).toNat < (M - k).toNat
                omega
            · have e1 : decide (k < M) = false := decide_eq_false hk
              go_wp2
              go_roundw
              case rel => exact ⟨i + 1, LE, _, _, rfl, rfl, by first | rfl | go_num, hlt, hLE.1, hLE.2, HBS⟩
              case measure => simp only [intOf]; omega
      · have d1 : decide (0 < mn) = false := decide_eq_false (by omega)
        go_wp2
        have hLE : 0 ≤ left ∧ left ≤ 4200 := ⟨hl0, hl1⟩
        have hM : (1 : Int) ≤ 1 ∧ (1 : Int) ≤ 4201 := by omega
        clear d1 b1 b2 a0 a1 a2 a3 a4
        go_loopw [4, 5, 9] (fun v4 v5 v9 ws => ∃ (k : Int) (v2 : Value) (l2 : List Op04), v5 = .bool true ∧ v9 = .int .i64 k ∧ 0 ≤ k ∧ k ≤ 1 ∧ Aside0 (BS w ws w.heap.size v2 v4 l2)) (fun _ _ v9 _ => (1 - intOf v9).toNat)
        case atStart => exact ⟨0, _, _, rfl, rfl, by omega, by omega, HBS⟩
        case round =>
          clear HBS
          obtain ⟨k, v2, l2, rfl, rfl, hk0, hk1, HBS⟩ := hrel
          by_cases hk : k < 1
          · have e1 : decide (k < 1) = true := decide_eq_true hk
            obtain ⟨a0, a1, a2, a3, a4⟩ := HAD.out _ HBS.out.bel
            go_wp2_with fail
            (with_reducible refine (does_calls w _ w.heap.size _ _ _ kd mn sq ks vs HBS.out HSQ.out).mono ?_)
            rintro e w5 ⟨v', vo', l', rfl, h⟩
            have HBS := Aside0.mk h
            clear h
            go_wp2
            go_roundw
            case rel => exact ⟨k + 1, _, _, rfl, by first | rfl | go_num, by omega, by omega, HBS⟩
            case measure =>
              show (1 - (k + 1)).toNat < (1 - k).toNat
              omega
          · have e1 : decide (k < 1) = false := decide_eq_false hk
            go_wp2
            go_roundw
            case rel => exact ⟨i + 1, left, _, _, rfl, rfl, by first | rfl | go_num, hlt, hLE.1, hLE.2, HBS⟩
            case measure => simp only [intOf]; omega
    · have b1 : decide ((i : Int) < (n : Int)) = false := decide_eq_false (by omega)
      have b2 : decide (i < n) = false := decide_eq_false hlt
      clear hi hl0 hl1
      obtain ⟨A, c, rfl, hc, hC⟩ := Kd.R_reads HBS.out.op
      have HE := Aside0.mk (encode_eq (13 + 2 * l.length) 1 l (by omega) HBS.out.sane (by omega))
      have HF := Aside0.mk (refencode_eq (13 + 2 * l.length) 1 l (by omega) HBS.out.sane (Nat.le_refl _))
      have HLC := Aside0.mk hc
      obtain ⟨⟨r, f⟩, hrf⟩ : ∃ rf, encR 1 l = rf := ⟨_, rfl⟩
      rw [hrf] at HE HF
      clear hrf hc hC
      go_wp2_with fail
      (with_reducible refine (bu_bytes _ w.heap.size w.heap.size _ l 1 HBS.out.bu _ _ _ HE.out).mono ?_)
      rintro e w5 ⟨v5, rfl, ho, hb⟩
      have HA5 := Aside0.mk ho
      have HB5 := Aside0.mk hb
      clear ho hb
      go_wp2_with fail
      (with_reducible refine (moraineref04_Encode.calls _ 1 A c l _ _ _ (Kd.R_reads' (HBS.out.below HB5.out).op).2.2 HLC.out HF.out).mono ?_)
      rintro e w6 ⟨v6, rfl, ho, hb⟩
      have HA5 := Aside0.mk (Kd.R_below HA5.out hb)
      have HA6 := Aside0.mk ho
      have HBL := Aside0.mk (below_step HBS.out.bel (below_step HB5.out hb))
      obtain ⟨B5, d5, rfl⟩ := Kd.R_slice HA5.out
      obtain ⟨B6, d6, rfl⟩ := Kd.R_slice HA6.out
      clear ho hb HB5 HBS HE HF
      go_wp2_with fail
      obtain ⟨W0, hW0⟩ : ∃ W0, (w6.alloc (.cells #[.bool false, .slice none 0 0, .int .i64 0] 49)).alloc (.cells #[.pointer none, .pointer (some ⟨w6.heap.size, 0, none⟩)] 40) = W0 := ⟨_, rfl⟩
      have z2 := World.alloc_heap_new (w6.alloc (.cells #[.bool false, .slice none 0 0, .int .i64 0] 49)) (.cells #[.pointer none, .pointer (some ⟨w6.heap.size, 0, none⟩)] 40)
      have z1 := World.alloc_heap_new w6 (.cells #[.bool false, .slice none 0 0, .int .i64 0] 49)
      rw [World.size_alloc, hW0] at z2
      have z1' : W0.heap[w6.heap.size]? = some (.cells #[.bool false, .slice none 0 0, .int .i64 0] 49 (0, 0)) := by rw [← hW0]; exact (Below.heap_alloc _ _ _ (by rw [World.size_alloc]; omega)).trans z1
      have hbw : Below w6.heap.size w6 W0 := by rw [← hW0]; exact below_alloc (below_alloc (Below.refl _ _) _) _
      have E2 := Aside0.mk z2
      have HN0 := Aside0.mk (show NobB W0 none from .inl rfl)
      have HN1 := Aside0.mk (show NobB W0 (some ⟨w6.heap.size, 0, none⟩) from .inr ⟨_, rfl, z1'⟩)
      have HB0 := Aside0.mk (Below.refl W0.heap.size W0)
      have HA5 := Aside0.mk (Kd.R_below HA5.out hbw)
      have HA6 := Aside0.mk (Kd.R_below HA6.out hbw)
      have HBL := Aside0.mk (below_step HBL.out hbw)
      rw [hW0]
      clear hW0 z1 z2 z1' hbw b1 b2
      go_loopw [92] (fun v92 wr => ∃ (i : Nat), v92 = .int .i64 (i : Int) ∧ i ≤ 2 ∧ Aside0 (Below W0.heap.size W0 wr)) (fun v92 _ => 2 - (intOf v92).toNat)
      case atStart => exact ⟨0, rfl, by omega, HB0⟩
      case round =>
        obtain ⟨j, rfl, hj, HB⟩ := hrel
        have hrow := (HB.out.block _ (blk_lt E2.out)).trans E2.out
        have r0 := blk_cell hrow 0
        have r1 := blk_cell hrow 1
        clear hrow HB0
        rcases (show j = 0 ∨ j = 1 ∨ j = 2 by omega) with rfl | rfl | rfl
        · skip
          go_wp2_with fail
          (with_reducible refine (none_clear none _ (HN0.out.below HB.out)).mono ?_)
          rintro e w8 ⟨⟨r0, rfl⟩, hb⟩
          have HB := Aside0.mk (below_step HB.out hb)
          clear hb
          go_wp2_with fail
          (with_reducible refine (none_bytes none 1 _ (HN0.out.below HB.out)).mono ?_)
          rintro e w8 ⟨rfl, hb⟩
          have HB := Aside0.mk (below_step HB.out hb)
          clear hb
          go_wp2_with fail
          (with_reducible refine (none_put none ⟨#[97]⟩ ⟨#[98]⟩ _ (HN0.out.below HB.out)).mono ?_)
          rintro e w8 ⟨rfl, hb⟩
          have HB := Aside0.mk (below_step HB.out hb)
          clear hb
          go_wp2_with fail
          (with_reducible refine (none_delete none ⟨#[97]⟩ _ (HN0.out.below HB.out)).mono ?_)
          rintro e w8 ⟨rfl, hb⟩
          have HB := Aside0.mk (below_step HB.out hb)
          clear hb
          go_wp2_with fail
          (with_reducible refine (none_range none ⟨#[97]⟩ ⟨#[98]⟩ _ (HN0.out.below HB.out)).mono ?_)
          rintro e w8 ⟨rfl, hb⟩
          have HB := Aside0.mk (below_step HB.out hb)
          clear hb
          go_wp2_with fail
          (with_reducible refine (none_len none _ (HN0.out.below HB.out)).mono ?_)
          rintro e w8 ⟨rfl, hb⟩
          have HB := Aside0.mk (below_step HB.out hb)
          clear hb
          go_wp2_with fail
          (with_reducible refine (none_size none _ (HN0.out.below HB.out)).mono ?_)
          rintro e w8 ⟨rfl, hb⟩
          have HB := Aside0.mk (below_step HB.out hb)
          clear hb
          go_wp2
          go_roundw
          case rel => exact ⟨1, by first | rfl | trivial, by omega, HB⟩
          case measure => simp only [intOf]; omega
        · skip
          go_wp2_with fail
          (with_reducible refine (none_clear _ _ (HN1.out.below HB.out)).mono ?_)
          rintro e w8 ⟨⟨r0, rfl⟩, hb⟩
          have HB := Aside0.mk (below_step HB.out hb)
          clear hb
          go_wp2_with fail
          (with_reducible refine (none_bytes _ 1 _ (HN1.out.below HB.out)).mono ?_)
          rintro e w8 ⟨rfl, hb⟩
          have HB := Aside0.mk (below_step HB.out hb)
          clear hb
          go_wp2_with fail
          (with_reducible refine (none_put _ ⟨#[97]⟩ ⟨#[98]⟩ _ (HN1.out.below HB.out)).mono ?_)
          rintro e w8 ⟨rfl, hb⟩
          have HB := Aside0.mk (below_step HB.out hb)
          clear hb
          go_wp2_with fail
          (with_reducible refine (none_delete _ ⟨#[97]⟩ _ (HN1.out.below HB.out)).mono ?_)
          rintro e w8 ⟨rfl, hb⟩
          have HB := Aside0.mk (below_step HB.out hb)
          clear hb
          go_wp2_with fail
          (with_reducible refine (none_range _ ⟨#[97]⟩ ⟨#[98]⟩ _ (HN1.out.below HB.out)).mono ?_)
          rintro e w8 ⟨rfl, hb⟩
          have HB := Aside0.mk (below_step HB.out hb)
          clear hb
          go_wp2_with fail
          (with_reducible refine (none_len _ _ (HN1.out.below HB.out)).mono ?_)
          rintro e w8 ⟨rfl, hb⟩
          have HB := Aside0.mk (below_step HB.out hb)
          clear hb
          go_wp2_with fail
          (with_reducible refine (none_size _ _ (HN1.out.below HB.out)).mono ?_)
          rintro e w8 ⟨rfl, hb⟩
          have HB := Aside0.mk (below_step HB.out hb)
          clear hb
          go_wp2
          go_roundw
          case rel => exact ⟨2, by first | rfl | trivial, by omega, HB⟩
          case measure => simp only [intOf]; omega
        · clear r0 r1
          have HA5 := Aside0.mk (Kd.R_below HA5.out HB.out)
          have HA6 := Aside0.mk (Kd.R_below HA6.out HB.out)
          have hcv5 := own_string (P := Try.prog) Try.underlying33 Try.underlying5 Try.underlying9 (Kd.own_of_R HA5.out)
          have hcv6 := own_string (P := Try.prog) Try.underlying33 Try.underlying5 Try.underlying9 (Kd.own_of_R HA6.out)
          generalize r.length = nr at *
          go_wp2
          go_ret
          exact ⟨rfl, below_step HBL.out HB.out⟩
theorem BatchBuilds_upto (w : World) (A0 : Option Addr) (c0 : Nat) (l0 : List S44) (hc0 : l0.length ≤ c0) (hr0 : Kd.C k44 w A0 l0.length l0) (hg0 : ∀ x ∈ l0, (Lit.int .i64 x.f0).wf = true ∧ (Lit.int .i64 x.f1).wf = true ∧ x.f2.size ≤ maxLen ∧ x.f3.size ≤ maxLen ∧ (Lit.int .u64 x.f4).wf = true)
    (hbulk : (sumBulk (fun x : S44 => 1 + 1 + (x.f2.size + 1) + (x.f3.size + 1) + 1 + 1) l0 + 1) ≤ 1048576) :
    Calls Try.prog 5 #[.slice A0 l0.length c0] w fun e w' => e = .returned (.bool true) ∧ Below w.heap.size w w' := by
  have hlb := sumBulk_len (fun x : S44 => 1 + 1 + (x.f2.size + 1) + (x.f3.size + 1) + 1 + 1) (fun _ => by omega) l0
  refine BatchBuilds_calls A0 c0 l0 w hc0 hr0 (by omega) ?_
  intro i hi
  have hm : rd_T44 l0 (i : Int) ∈ l0 := by
    unfold rd_T44
    rw [Int.toNat_natCast, List.getD_eq_getElem?_getD, List.getElem?_eq_getElem hi]
    exact List.getElem_mem hi
  have h := (hg0 _ hm).2.2.2.2
  have ha : 0 ≤ (rd_T44 l0 (i : Int)).f4 ∧ (rd_T44 l0 (i : Int)).f4 ≤ 18446744073709551615 := by simpa [Lit.wf, IntKind.min, IntKind.max, IntKind.signed, IntKind.bits] using h
  exact ha.1

end Go.Proofs.Ythkooncibfkepaa.G
