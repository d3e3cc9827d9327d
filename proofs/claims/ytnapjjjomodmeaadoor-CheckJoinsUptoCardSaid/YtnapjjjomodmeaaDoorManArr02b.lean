/- Contracts typed by hand: twice, then -/
import Derived.Test.YtnapjjjomodmeaaDoorProg
import Derived.Below
import Derived.Deep.Draws
import Derived.Deep.AppendLies
import Derived.Maps.AppendAt
import Derived.OwnWalk
import Derived.Laws.BytesArg
import Derived.Laws.MakeOwn
import Derived.Laws.OwnMore
import Derived.Deep.OwnRows
import Derived.Tactics
import Derived.Lib.ConvBytes
import Derived.Laws.Slices
import Derived.WalkKit
import Derived.KernelRfl
import Derived.RowKit3
import Derived.Deep.LoopGhost
import Derived.Deep.QuietTactic
import Derived.BigQuiet
import Derived.WideLaws
import Derived.Deep.DeepCutAuto
import Derived.Deep.CutBlock
import Derived.Deep.RegionHeld3
import Derived.Laws.Rows
import Derived.Lib.AppendStr
import Derived.ArgAppend
import Derived.Laws.IdiomCopy
import Derived.OrdersHeld
import Derived.Laws.BitsLemmas
import Derived.RowKit
import Derived.Test.YtnapjjjomodmeaaDoorWWords
import Derived.Test.YtnapjjjomodmeaaDoorWLast
import Derived.Test.YtnapjjjomodmeaaDoorWTab
import Derived.Test.YtnapjjjomodmeaaDoorWFour
import Derived.Test.YtnapjjjomodmeaaDoorWQPut
import Derived.Test.YtnapjjjomodmeaaDoorWApart
import Derived.Test.YtnapjjjomodmeaaDoorWArr
import Derived.Test.YtnapjjjomodmeaaDoorWZeros
import Derived.Test.YtnapjjjomodmeaaDoorWFoot
import Derived.Test.YtnapjjjomodmeaaDoorWKept
import Derived.Test.YtnapjjjomodmeaaDoorWShare
import Derived.Test.YtnapjjjomodmeaaDoorWN
import Derived.Test.YtnapjjjomodmeaaDoorWFootNe
import Derived.Test.YtnapjjjomodmeaaDoorWAt
import Derived.Test.YtnapjjjomodmeaaDoorWEqStruct
import Derived.Test.YtnapjjjomodmeaaDoorWRepsOne
import Derived.Test.YtnapjjjomodmeaaDoorWInv
import Derived.Test.YtnapjjjomodmeaaDoorWInvWords
import Derived.Test.YtnapjjjomodmeaaDoorWGuard
import Derived.Test.YtnapjjjomodmeaaDoorWNEv
import Derived.Test.YtnapjjjomodmeaaDoorWMore
import Derived.Test.YtnapjjjomodmeaaDoorManArr02
namespace Go.Proofs.YtnapjjjomodmeaaDoor.G
open Go.RowKit Go.Proofs.YtnapjjjomodmeaaDoorW.PrintWords Go.Proofs.YtnapjjjomodmeaaDoorW.PrintLast Go.Proofs.YtnapjjjomodmeaaDoorW.PrintMore
attribute [local go_sem] max2_int min2_int max_two min_two max_three min_three max_four min_four
set_option linter.unusedVariables false
set_option linter.unusedSimpArgs false

/-! twice, then -/
set_option maxHeartbeats 4000000 in
theorem twice_calls (t : List Nat) (m : Nat) (w : World) (ht : Lin t m) : Calls Tryd.prog 35 #[.agg (ac t)] w fun e w' => e = .returned (.agg (ac (twiceOf t))) ∧ Below w.heap.size w w' := by
  have HR := Aside0.mk (reg_lin ht)
  have HL := Aside0.mk ht.1
  have HL2 := Aside0.mk (lin_twice ht).1
  clear ht
  have HA := Aside0.mk ((ArrAt.fresh w 58 t).alloc (.cells (ac (fill (twiceOf t) 0)) 58))
  have hsz : (w.alloc (.cells (ac t) 58)).heap.size = w.heap.size + 1 := by simp
  have hO := ArrAt.fresh (w.alloc (.cells (ac t) 58)) 58 (fill (twiceOf t) 0)
  rw [hsz] at hO
  have HO := Aside0.mk hO
  clear hsz hO
  have HB := Aside0.mk (below_alloc (below_alloc (Below.refl w.heap.size w) (.cells (ac t) 58)) (.cells (ac (fill (twiceOf t) 0)) 58))
  go_enter Tryd.func35, Tryd.ntmps35
  go_wp2_with fail
  go_loopw [4] (fun v4 wr => ∃ (k : Nat), v4 = .int .i64 (k : Int) ∧ k ≤ 32 ∧ Aside0 (ArrAt wr w.heap.size 58 t) ∧ Aside0 (ArrAt wr (w.heap.size + 1) 58 (fill (twiceOf t) k)) ∧ Aside0 (Below w.heap.size w wr)) (fun v4 _ => 32 - (intOf v4).toNat)
  case atStart => exact ⟨0, rfl, by omega, HA, HO, HB⟩
  case round =>
    clear HA HB HO
    obtain ⟨k, rfl, hk, HA, HO, HB⟩ := hrel
    by_cases hlt : k < 32
    · have b1 : decide ((k : Int) < 32) = true := decide_eq_true (by omega)
      have c1 : (0 : Int) ≤ (k : Int) := Int.natCast_nonneg _
      have c2 : (k : Int) < 32 := by omega
      have hu := Tryd.underlying58
      have hi := hi38
      have HC := Aside0.mk (fill_set HL2.out hlt)
      have HNE := Aside0.mk (show w.heap.size ≠ w.heap.size + 1 by omega)
      have hl1 : k < t.length := by rw [HL.out]; exact hlt
      have hlm : (t.map er).length = 32 := by rw [List.length_map, HL.out]
      have HLK := Aside0.mk (show k < (fill (twiceOf t) k).length by rw [fill_len HL2.out hk]; exact hlt)
      have HG := Aside0.mk (getD_range_map (fun i => mapTo t 32 (t.getD i 0)) k hlt)
      have hi2 : (Tryd.prog.info? 58).map (·.size) = some (t.map er).length := by rw [hlm]; exact hi38
      clear hi
      have HLOW := Aside0.mk (HR.out.low k hlt)
      have HK := Aside0.mk (fun (W : World) (h : ArrAt W w.heap.size 58 t) => h.cell k hl1)
      generalize t.getD k 0 = c at *
      clear hl1
      go_wp2_with fail
      go_region_held2 (fun w' => w'.rangeAt w.heap.size 0 (t.map er) ∧ w'.cell? ⟨w.heap.size, k, none⟩ = some (.int .u32 (c : Int))) (first | exact ⟨HA4.out.range, HK.out _ HA4.out⟩ | exact ⟨(HA4.out.other HNE.out _ _).range, HK.out _ (HA4.out.other HNE.out _ _)⟩ | exact ⟨HA.out.drew.range, HK.out _ HA.out.drew⟩) (first | (go_at_call 36; (with_reducible refine (of_calls2 t c _ HR.out HLOW.out).mono ?_); rintro e w4 ⟨rfl, hb⟩; have HA4 := Aside0.mk (HA.out.drew.below hb); have HO4 := Aside0.mk (HO.out.drew.below hb); have HB4 := Aside0.mk (below_step (below_drew HB.out) hb); have hcell := HO4.out.cell k HLK.out; have hfro := HO4.out.frozen k; clear hb))
      go_wp2_with fail
      go_roundw
      case rel =>
        refine ⟨k + 1, by go_num, by omega, ⟨HA4.out.other HNE.out _ _⟩, ⟨?_⟩, ⟨HB4.out.setCell (Nat.le_succ _) _⟩⟩
        rw [← HC.out]
        unfold twiceOf
        rw [HG.out]
        exact HO4.out.set k _
      case measure => simp [intOf]; omega
    · obtain rfl : k = 32 := by omega
      go_wp2_with (first | (refine wpList_load_arr rfl _ _ rfl _ rfl HO.out Tryd.underlying58 hi38 (fill_len HL2.out (by omega)) ?_) | (refine wpList_store_arr rfl rfl _ _ _ rfl _ rfl HO.out _ rfl hi38 (fill_len HL2.out (by omega)) (fill_len HL2.out (by omega)) ?_))
      exact ret_arr rfl rfl (HO.out.setc _ rfl) Tryd.underlying58 hi38 (fill_len HL2.out (by omega)) rfl ⟨by rw [fill_all HL2.out], belowSetCells _ (Nat.le_succ _) _ _ _ HB.out⟩

end Go.Proofs.YtnapjjjomodmeaaDoor.G
