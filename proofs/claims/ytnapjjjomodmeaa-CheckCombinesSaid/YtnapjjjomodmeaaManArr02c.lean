/- Contracts typed by hand: then -/
import Derived.Test.YtnapjjjomodmeaaProg
import Derived.Below
import Derived.Deep.Draws
import Derived.Deep.AppendLies
import Derived.Maps.AppendAt
import Derived.OwnWalk
import Derived.Laws.BytesArg
import Derived.Laws.MakeOwn
import Derived.Laws.OwnMore
import Derived.Deep.OwnRows
import Derived.Tactics
import Derived.Lib.ConvBytes
import Derived.Laws.Slices
import Derived.WalkKit
import Derived.KernelRfl
import Derived.RowKit3
import Derived.Deep.LoopGhost
import Derived.Deep.QuietTactic
import Derived.BigQuiet
import Derived.WideLaws
import Derived.Deep.DeepCutAuto
import Derived.Deep.CutBlock
import Derived.Deep.RegionHeld3
import Derived.Laws.Rows
import Derived.Lib.AppendStr
import Derived.ArgAppend
import Derived.Laws.IdiomCopy
import Derived.OrdersHeld
import Derived.Laws.BitsLemmas
import Derived.RowKit
import Derived.Test.YtnapjjjomodmeaaWWords
import Derived.Test.YtnapjjjomodmeaaWLast
import Derived.Test.YtnapjjjomodmeaaWTab
import Derived.Test.YtnapjjjomodmeaaWFour
import Derived.Test.YtnapjjjomodmeaaWQPut
import Derived.Test.YtnapjjjomodmeaaWApart
import Derived.Test.YtnapjjjomodmeaaWArr
import Derived.Test.YtnapjjjomodmeaaWZeros
import Derived.Test.YtnapjjjomodmeaaWFoot
import Derived.Test.YtnapjjjomodmeaaWKept
import Derived.Test.YtnapjjjomodmeaaWShare
import Derived.Test.YtnapjjjomodmeaaWN
import Derived.Test.YtnapjjjomodmeaaWFootNe
import Derived.Test.YtnapjjjomodmeaaWAt
import Derived.Test.YtnapjjjomodmeaaWEqStruct
import Derived.Test.YtnapjjjomodmeaaWRepsOne
import Derived.Test.YtnapjjjomodmeaaWInv
import Derived.Test.YtnapjjjomodmeaaWInvWords
import Derived.Test.YtnapjjjomodmeaaWGuard
import Derived.Test.YtnapjjjomodmeaaWNEv
import Derived.Test.YtnapjjjomodmeaaWMore
import Derived.Test.YtnapjjjomodmeaaManArr02
namespace Go.Proofs.Ytnapjjjomodmeaa.G
open Go.RowKit Go.Proofs.YtnapjjjomodmeaaW.PrintWords Go.Proofs.YtnapjjjomodmeaaW.PrintLast Go.Proofs.YtnapjjjomodmeaaW.PrintMore
attribute [local go_sem] max2_int min2_int max_two min_two max_three min_three max_four min_four
set_option linter.unusedVariables false
set_option linter.unusedSimpArgs false

/-! then -/
set_option maxHeartbeats 4000000 in
theorem then_calls (t : List Nat) (m : Nat) (w : World) (ht : Lin t m) : Calls Try.prog 22 #[.agg (ac t), .agg (ac t)] w fun e w' => e = .returned (.agg (ac (twiceOf t))) ∧ Below w.heap.size w w' := by
  have HR := Aside0.mk (reg_lin ht)
  have HL := Aside0.mk ht.1
  have HL2 := Aside0.mk (lin_twice ht).1
  clear ht
  have z1 : (w.alloc (.cells (ac t) 40)).heap.size = w.heap.size + 1 := by simp
  have z2 : ((w.alloc (.cells (ac t) 40)).alloc (.cells (ac t) 40)).heap.size = w.heap.size + 2 := by simp
  have z3 : (((w.alloc (.cells (ac t) 40)).alloc (.cells (ac t) 40)).alloc (.cells (ac (fill (twiceOf t) 0)) 40)).heap.size = w.heap.size + 3 := by simp
  have h1 := ArrAt.fresh w 40 t
  have h2 := ArrAt.fresh (w.alloc (.cells (ac t) 40)) 40 t
  have h3 := ArrAt.fresh ((w.alloc (.cells (ac t) 40)).alloc (.cells (ac t) 40)) 40 (fill (twiceOf t) 0)
  have h4 := ArrAt.fresh (((w.alloc (.cells (ac t) 40)).alloc (.cells (ac t) 40)).alloc (.cells (ac (fill (twiceOf t) 0)) 40)) 40 (fill (twiceOf t) 0)
  rw [z1] at h2
  rw [z2] at h3
  rw [z3] at h4
  have HA := Aside0.mk (((h1.alloc (.cells (ac t) 40)).alloc (.cells (ac (fill (twiceOf t) 0)) 40)).alloc (.cells (ac (fill (twiceOf t) 0)) 40))
  have HA' := Aside0.mk ((h2.alloc (.cells (ac (fill (twiceOf t) 0)) 40)).alloc (.cells (ac (fill (twiceOf t) 0)) 40))
  have HZ := Aside0.mk (h3.alloc (.cells (ac (fill (twiceOf t) 0)) 40))
  have HO := Aside0.mk h4
  have HB := Aside0.mk (below_alloc (below_alloc (below_alloc (below_alloc (Below.refl w.heap.size w) (.cells (ac t) 40)) (.cells (ac t) 40)) (.cells (ac (fill (twiceOf t) 0)) 40)) (.cells (ac (fill (twiceOf t) 0)) 40))
  clear z1 z2 z3 h1 h2 h3 h4
  go_enter Try.func22, Try.ntmps22
  go_wp2_with fail
  go_loopw [6] (fun v4 wr => ∃ (k : Nat), v4 = .int .i64 (k : Int) ∧ k ≤ 32 ∧ Aside0 (ArrAt wr w.heap.size 40 t) ∧ Aside0 (ArrAt wr (w.heap.size + 1) 40 t) ∧ Aside0 (ArrAt wr (w.heap.size + 2) 40 (fill (twiceOf t) 0)) ∧ Aside0 (ArrAt wr (w.heap.size + 3) 40 (fill (twiceOf t) k)) ∧ Aside0 (Below w.heap.size w wr)) (fun v4 _ => 32 - (intOf v4).toNat)
  case atStart => exact ⟨0, rfl, by omega, HA, HA', HZ, HO, HB⟩
  case round =>
    clear HA HA' HZ HB HO
    obtain ⟨k, rfl, hk, HA, HA', HZ, HO, HB⟩ := hrel
    by_cases hlt : k < 32
    · have b1 : decide ((k : Int) < 32) = true := decide_eq_true (by omega)
      have c1 : (0 : Int) ≤ (k : Int) := Int.natCast_nonneg _
      have c2 : (k : Int) < 32 := by omega
      have hu := Try.underlying40
      have hi := hi40
      have HC := Aside0.mk (fill_set HL2.out hlt)
      have HNE := Aside0.mk (show w.heap.size ≠ w.heap.size + 3 ∧ w.heap.size + 1 ≠ w.heap.size + 3 ∧ w.heap.size + 2 ≠ w.heap.size + 3 by omega)
      have hl1 : k < t.length := by rw [HL.out]; exact hlt
      have hlm : (t.map er).length = 32 := by rw [List.length_map, HL.out]
      have HLK := Aside0.mk (show k < (fill (twiceOf t) k).length by rw [fill_len HL2.out hk]; exact hlt)
      have HG := Aside0.mk (getD_range_map (fun i => mapTo t 32 (t.getD i 0)) k hlt)
      have hi2 : (Try.prog.info? 40).map (·.size) = some (t.map er).length := by rw [hlm]; exact hi40
      clear hi
      have HLOW := Aside0.mk (HR.out.low k hlt)
      have HK := Aside0.mk (fun (W : World) (h : ArrAt W w.heap.size 40 t) => h.cell k hl1)
      generalize t.getD k 0 = c at *
      clear hl1
      go_wp2_with fail
      go_region_held2 (fun w' => w'.rangeAt (w.heap.size + 1) 0 (t.map er) ∧ w'.cell? ⟨w.heap.size, k, none⟩ = some (.int .u32 (c : Int))) (first | exact ⟨HA4'.out.range, HK.out _ HA4.out⟩ | exact ⟨(HA4'.out.other HNE.out.2.1 _ _).range, HK.out _ (HA4.out.other HNE.out.1 _ _)⟩ | exact ⟨HA'.out.drew.range, HK.out _ HA.out.drew⟩) (first | (go_at_call 21; (with_reducible refine (refof_calls2 t c _ HR.out HLOW.out).mono ?_); rintro e w4 ⟨rfl, hb⟩; have HA4 := Aside0.mk (HA.out.drew.below hb); have HA4' := Aside0.mk (HA'.out.drew.below hb); have HZ4 := Aside0.mk (HZ.out.drew.below hb); have HO4 := Aside0.mk (HO.out.drew.below hb); have HB4 := Aside0.mk (below_step (below_drew HB.out) hb); have hcell := HO4.out.cell k HLK.out; have hfro := HO4.out.frozen k; clear hb))
      go_wp2_with fail
      go_roundw
      case rel =>
        refine ⟨k + 1, by go_num, by omega, ⟨HA4.out.other HNE.out.1 _ _⟩, ⟨HA4'.out.other HNE.out.2.1 _ _⟩, ⟨HZ4.out.other HNE.out.2.2 _ _⟩, ⟨?_⟩, ⟨HB4.out.setCell (Nat.le_add_right _ 3) _⟩⟩
        rw [← HC.out]
        unfold twiceOf
        rw [HG.out]
        exact HO4.out.set k _
      case measure => simp [intOf]; omega
    · obtain rfl : k = 32 := by omega
      go_wp2_with (first | (refine wpList_load_arr rfl _ _ rfl _ rfl HO.out Try.underlying40 hi40 (fill_len HL2.out (by omega)) ?_) | (refine wpList_store_arr rfl rfl _ _ _ rfl _ rfl HZ.out _ rfl hi40 (fill_len HL2.out (by omega)) (fill_len HL2.out (by omega)) ?_))
      exact ret_arr rfl rfl (HZ.out.setc _ (by rw [fill_len HL2.out (by omega), fill_len HL2.out (by omega)])) Try.underlying40 hi40 (fill_len HL2.out (by omega)) rfl ⟨by rw [fill_all HL2.out], belowSetCells _ (Nat.le_add_right _ 2) _ _ _ HB.out⟩

end Go.Proofs.Ytnapjjjomodmeaa.G
