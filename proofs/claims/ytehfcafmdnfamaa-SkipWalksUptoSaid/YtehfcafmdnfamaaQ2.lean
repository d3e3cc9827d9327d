/- Contracts of functions and plain laws, several texts of the session put together by its program. -/
import Derived.Test.YtehfcafmdnfamaaProg
import Derived.Below
import Derived.Deep.Draws
import Derived.Deep.AppendLies
import Derived.Maps.AppendAt
import Derived.OwnWalk
import Derived.Laws.BytesArg
import Derived.Laws.MakeOwn
import Derived.Laws.OwnMore
import Derived.Deep.OwnRows
import Derived.Tactics
import Derived.Lib.ConvBytes
import Derived.Laws.Slices
import Derived.WalkKit
import Derived.KernelRfl
import Derived.RowKit3
import Derived.Deep.LoopGhost
import Derived.Deep.QuietTactic
import Derived.BigQuiet
import Derived.WideLaws
import Derived.Deep.DeepCutAuto
import Derived.Deep.CutBlock
import Derived.Deep.RegionHeld3
import Derived.Laws.Rows
import Derived.Lib.AppendStr
import Derived.ArgAppend
import Derived.Laws.IdiomCopy
import Derived.OrdersHeld
import Derived.Laws.BitsLemmas
import Derived.RowKit
import Derived.Test.YtehfcafmdnfamaaWWords
import Derived.Test.YtehfcafmdnfamaaWLast
import Derived.Test.YtehfcafmdnfamaaWTab
import Derived.Test.YtehfcafmdnfamaaWFour
import Derived.Test.YtehfcafmdnfamaaWQPut
import Derived.Test.YtehfcafmdnfamaaWApart
import Derived.Test.YtehfcafmdnfamaaWArr
import Derived.Test.YtehfcafmdnfamaaWZeros
import Derived.Test.YtehfcafmdnfamaaWFoot
import Derived.Test.YtehfcafmdnfamaaWKept
import Derived.Test.YtehfcafmdnfamaaWShare
import Derived.Test.YtehfcafmdnfamaaWN
import Derived.Test.YtehfcafmdnfamaaWFootNe
import Derived.Test.YtehfcafmdnfamaaWAt
import Derived.Test.YtehfcafmdnfamaaWEqStruct
import Derived.Test.YtehfcafmdnfamaaWRepsOne
import Derived.Test.YtehfcafmdnfamaaWInv
import Derived.Test.YtehfcafmdnfamaaWInvWords
import Derived.Test.YtehfcafmdnfamaaWGuard
import Derived.Test.YtehfcafmdnfamaaWNEv
import Derived.Test.YtehfcafmdnfamaaWMore
import Derived.Test.YtehfcafmdnfamaaQ1
import Derived.Test.YtehfcafmdnfamaaQ0
import Derived.RangeFuncNested
import Derived.RangeFuncBound
import Derived.RangeFuncCalls
import Derived.RangeFuncLeaves
import Derived.RangeFuncBox
import Derived.RangeFuncRecord
import Derived.Shelf.Abstract
import Derived.OwnWalkIn
import Derived.TacticsInMore
import Derived.LoopNIn
import Derived.LoopIn
import Derived.BigRegionIn
import Derived.Sort.QuietIn

/- Contracts typed by hand: a skiplist in memory: Insert, where it is refused (values: whole numbers) -/
namespace Go.Proofs.Ytehfcafmdnfamaa.G
open Go.RowKit Go.Proofs.YtehfcafmdnfamaaW.PrintWords Go.Proofs.YtehfcafmdnfamaaW.PrintLast Go.Proofs.YtehfcafmdnfamaaW.PrintMore
attribute [local go_sem] max2_int min2_int max_two min_two max_three min_three max_four min_four
set_option linter.unusedVariables false
set_option linter.unusedSimpArgs false

/-! a skiplist in memory: Insert, where it is refused (values: whole numbers) -/
attribute [local go_sem high] eqAk
set_option maxHeartbeats 8000000 in
set_option maxRecDepth 100000 in
theorem sk_ins30 (g base most : Nat) (S : SL Int) (k : IK) (v : Int) (hh : Int) (w : World) (h : SkAt w g base S most) (hv : ikey_Valid.f k.1 k.2.1 k.2.2 = some false) :
    Calls Try.prog 13 #[.pointer (some ⟨g, 0, none⟩), .agg #[.string k.1, .int .u64 k.2.1, .int .i64 k.2.2], encV_ v, .int .i64 hh] w fun e w' => e = .returned (.int .i64 30) ∧ Below w.heap.size w w' := by
  obtain ⟨W1, hW1⟩ : ∃ W1, w.alloc (.cells #[.string k.1, .int .u64 k.2.1, .int .i64 k.2.2] 37) = W1 := ⟨_, rfl⟩
  have HB1 := Aside0.mk (show Below w.heap.size w W1 by rw [← hW1]; exact below_alloc (Below.refl _ _) _)
  have HX1 := Aside0.mk (show W1.heap[w.heap.size]? = some (.cells #[.string k.1, .int .u64 k.2.1, .int .i64 k.2.2] 37 (0, 0)) by rw [← hW1]; exact blk_new w _)
  have H1 := Aside0.mk (h.below HB1.out)
  have HE1 := Aside0.mk hW1
  have HF := Aside0.mk h.fine
  clear hW1
  have x0 := blk_cell HX1.out 0
  have x1 := blk_cell HX1.out 1
  have x2 := blk_cell HX1.out 2
  have HV := Aside0.mk hv
  have hkp := h.fine
  clear hv
  clear h hkp
  go_enter Try.func13, Try.ntmps13
  go_wp2_with fail
  rw [HE1.out]
  (with_reducible refine (sk_none g base most S _ H1.out).mono ?_)
  rintro e w1 ⟨rfl, rfl⟩
  go_wp2_with fail
  (with_reducible refine (ikey_Valid.calls _ _ _ _ _ HV.out).mono ?_)
  rintro e w2 ⟨rfl, hb⟩
  have HB2 := Aside0.mk (below_step HB1.out hb)
  have H2 := Aside0.mk (H1.out.below hb)
  have HX2 := Aside0.mk (blk_below HX1.out hb)
  clear hb x0 x1 x2
  go_wp2
  go_ret
  exact ⟨rfl, HB2.out⟩
set_option maxHeartbeats 8000000 in
set_option maxRecDepth 100000 in
theorem sk_ins2 (g base most : Nat) (S : SL Int) (k : IK) (v : Int) (hh : Int) (w : World) (h : SkAt w g base S most) (hv : ikey_Valid.f k.1 k.2.1 k.2.2 = some true) (hlo : hh < 1) :
    Calls Try.prog 13 #[.pointer (some ⟨g, 0, none⟩), .agg #[.string k.1, .int .u64 k.2.1, .int .i64 k.2.2], encV_ v, .int .i64 hh] w fun e w' => e = .returned (.int .i64 2) ∧ Below w.heap.size w w' := by
  obtain ⟨W1, hW1⟩ : ∃ W1, w.alloc (.cells #[.string k.1, .int .u64 k.2.1, .int .i64 k.2.2] 37) = W1 := ⟨_, rfl⟩
  have HB1 := Aside0.mk (show Below w.heap.size w W1 by rw [← hW1]; exact below_alloc (Below.refl _ _) _)
  have HX1 := Aside0.mk (show W1.heap[w.heap.size]? = some (.cells #[.string k.1, .int .u64 k.2.1, .int .i64 k.2.2] 37 (0, 0)) by rw [← hW1]; exact blk_new w _)
  have H1 := Aside0.mk (h.below HB1.out)
  have HE1 := Aside0.mk hW1
  have HF := Aside0.mk h.fine
  clear hW1
  have x0 := blk_cell HX1.out 0
  have x1 := blk_cell HX1.out 1
  have x2 := blk_cell HX1.out 2
  have HV := Aside0.mk hv
  have hkp := h.fine
  clear hv
  have a1 : decide (hh < 1) = true := decide_eq_true hlo
  clear h hkp
  go_enter Try.func13, Try.ntmps13
  go_wp2_with fail
  rw [HE1.out]
  (with_reducible refine (sk_none g base most S _ H1.out).mono ?_)
  rintro e w1 ⟨rfl, rfl⟩
  go_wp2_with fail
  (with_reducible refine (ikey_Valid.calls _ _ _ _ _ HV.out).mono ?_)
  rintro e w2 ⟨rfl, hb⟩
  have HB2 := Aside0.mk (below_step HB1.out hb)
  have H2 := Aside0.mk (H1.out.below hb)
  have HX2 := Aside0.mk (blk_below HX1.out hb)
  clear hb x0 x1 x2
  go_wp2
  go_ret
  exact ⟨rfl, HB2.out⟩
set_option maxHeartbeats 8000000 in
set_option maxRecDepth 100000 in
theorem sk_ins2h (g base most : Nat) (S : SL Int) (k : IK) (v : Int) (hh : Int) (w : World) (h : SkAt w g base S most) (hv : ikey_Valid.f k.1 k.2.1 k.2.2 = some true) (hhi : 12 < hh) :
    Calls Try.prog 13 #[.pointer (some ⟨g, 0, none⟩), .agg #[.string k.1, .int .u64 k.2.1, .int .i64 k.2.2], encV_ v, .int .i64 hh] w fun e w' => e = .returned (.int .i64 2) ∧ Below w.heap.size w w' := by
  obtain ⟨W1, hW1⟩ : ∃ W1, w.alloc (.cells #[.string k.1, .int .u64 k.2.1, .int .i64 k.2.2] 37) = W1 := ⟨_, rfl⟩
  have HB1 := Aside0.mk (show Below w.heap.size w W1 by rw [← hW1]; exact below_alloc (Below.refl _ _) _)
  have HX1 := Aside0.mk (show W1.heap[w.heap.size]? = some (.cells #[.string k.1, .int .u64 k.2.1, .int .i64 k.2.2] 37 (0, 0)) by rw [← hW1]; exact blk_new w _)
  have H1 := Aside0.mk (h.below HB1.out)
  have HE1 := Aside0.mk hW1
  have HF := Aside0.mk h.fine
  clear hW1
  have x0 := blk_cell HX1.out 0
  have x1 := blk_cell HX1.out 1
  have x2 := blk_cell HX1.out 2
  have HV := Aside0.mk hv
  have hkp := h.fine
  clear hv
  have a1 : decide (hh < 1) = false := decide_eq_false (by omega)
  have a2 : decide (hh > 12) = true := decide_eq_true (by omega)
  clear h hkp
  go_enter Try.func13, Try.ntmps13
  go_wp2_with fail
  rw [HE1.out]
  (with_reducible refine (sk_none g base most S _ H1.out).mono ?_)
  rintro e w1 ⟨rfl, rfl⟩
  go_wp2_with fail
  (with_reducible refine (ikey_Valid.calls _ _ _ _ _ HV.out).mono ?_)
  rintro e w2 ⟨rfl, hb⟩
  have HB2 := Aside0.mk (below_step HB1.out hb)
  have H2 := Aside0.mk (H1.out.below hb)
  have HX2 := Aside0.mk (blk_below HX1.out hb)
  clear hb x0 x1 x2
  go_wp2
  go_ret
  exact ⟨rfl, HB2.out⟩
set_option maxHeartbeats 8000000 in
set_option maxRecDepth 100000 in
theorem sk_ins81 (g base most : Nat) (S : SL Int) (k : IK) (v : Int) (hh : Int) (w : World) (h : SkAt w g base S most) (hv : ikey_Valid.f k.1 k.2.1 k.2.2 = some true) (hlo : 1 ≤ hh) (hhi : hh ≤ 12) (n : Nat) (hn : S.seek k = n) (hn0 : n ≠ 0) (hk : S.key n = k) :
    Calls Try.prog 13 #[.pointer (some ⟨g, 0, none⟩), .agg #[.string k.1, .int .u64 k.2.1, .int .i64 k.2.2], encV_ v, .int .i64 hh] w fun e w' => e = .returned (.int .i64 81) ∧ Below w.heap.size w w' := by
  obtain ⟨W1, hW1⟩ : ∃ W1, w.alloc (.cells #[.string k.1, .int .u64 k.2.1, .int .i64 k.2.2] 37) = W1 := ⟨_, rfl⟩
  have HB1 := Aside0.mk (show Below w.heap.size w W1 by rw [← hW1]; exact below_alloc (Below.refl _ _) _)
  have HX1 := Aside0.mk (show W1.heap[w.heap.size]? = some (.cells #[.string k.1, .int .u64 k.2.1, .int .i64 k.2.2] 37 (0, 0)) by rw [← hW1]; exact blk_new w _)
  have H1 := Aside0.mk (h.below HB1.out)
  have HE1 := Aside0.mk hW1
  have HF := Aside0.mk h.fine
  clear hW1
  have x0 := blk_cell HX1.out 0
  have x1 := blk_cell HX1.out 1
  have x2 := blk_cell HX1.out 2
  have HV := Aside0.mk hv
  have hkp := h.fine
  clear hv
  have a1 : decide (hh < 1) = false := decide_eq_false (by omega)
  have a2 : decide (hh > 12) = false := decide_eq_false (by omega)
  have HZ := Aside0.mk (show 1 ≤ n ∧ n ≤ S.nodes.length from ⟨by omega, by rw [← hn]; exact seek_lt hkp.1 k⟩)
  have HN := Aside0.mk hn
  have HKK := Aside0.mk (show decide (S.key n = k) = true from decide_eq_true hk)
  clear hn0 hk hn
  clear h hkp
  go_enter Try.func13, Try.ntmps13
  go_wp2_with fail
  rw [HE1.out]
  (with_reducible refine (sk_none g base most S _ H1.out).mono ?_)
  rintro e w1 ⟨rfl, rfl⟩
  go_wp2_with fail
  (with_reducible refine (ikey_Valid.calls _ _ _ _ _ HV.out).mono ?_)
  rintro e w2 ⟨rfl, hb⟩
  have HB2 := Aside0.mk (below_step HB1.out hb)
  have H2 := Aside0.mk (H1.out.below hb)
  have HX2 := Aside0.mk (blk_below HX1.out hb)
  clear hb x0 x1 x2
  have x0 := blk_cell HX2.out 0
  have x1 := blk_cell HX2.out 1
  have x2 := blk_cell HX2.out 2
  go_wp2_with fail
  (with_reducible refine (sk_seek g base most S k _ H2.out).mono ?_)
  rintro e w3 ⟨rfl, hb⟩
  have HB3 := Aside0.mk (below_step HB2.out hb)
  have H3 := Aside0.mk (H2.out.below hb)
  have HX3 := Aside0.mk (blk_below HX2.out hb)
  clear hb x0 x1 x2
  rw [HN.out]
  obtain ⟨b, c, ns, h1, h2, _, h4, hM⟩ := H3.out.reads
  obtain ⟨k0, k1, k2, y, hy, hyk, k3⟩ := h4 n HZ.out.1 (by have := HZ.out.2; omega)
  have q0 : w3.cell? ⟨g, 0, none⟩ = some (.slice (some ⟨b, 0, none⟩) (S.nodes.length + 1) c) := (blk_cell h1 0).trans rfl
  have hbq := ikey_beq (S.key n) k
  obtain ⟨⟨ks, kn, kd⟩, hkk⟩ : ∃ kk, S.key n = kk := ⟨_, rfl⟩
  rw [hkk] at k0 k1 k2 hbq
  dsimp only at k0 k1 k2 hbq
  have x0 := blk_cell HX3.out 0
  have x1 := blk_cell HX3.out 1
  have x2 := blk_cell HX3.out 2
  obtain ⟨m, hm⟩ : ∃ m, S.nodes.length + 1 = m := ⟨_, rfl⟩
  rw [hm] at q0
  have hnm : n < m := by have := HZ.out.2; omega
  have hmb : m ≤ 1048577 := by have := HF.out.2.1; omega
  have b3 : ((n : Int) == 0) = false := by have := HZ.out.1; simp; omega
  have b4 : ((n : Int) != 0) = true := by have := HZ.out.1; simp; omega
  have HBQ := Aside0.mk (hbq.trans (show decide ((ks, kn, kd) = k) = true by rw [← hkk]; exact HKK.out))
  clear h1 h2 h4 hM hy hyk hbq hkk hm k3
  go_wp2_with fail
  refine start_ (n := 14) (S := fun w' => w'.cell? ⟨g, 0, none⟩ = some (.slice (some ⟨b, 0, none⟩) m c) ∧ w'.cell? ⟨b, n * 18, none⟩ = some (.string ks) ∧ w'.cell? ⟨b, n * 18 + 1, none⟩ = some (.int .u64 kn) ∧ w'.cell? ⟨b, n * 18 + 2, none⟩ = some (.int .i64 kd) ∧ w'.cell? ⟨w.heap.size, 0, none⟩ = some (.string k.1) ∧ w'.cell? ⟨w.heap.size, 1, none⟩ = some (.int .u64 k.2.1) ∧ w'.cell? ⟨w.heap.size, 2, none⟩ = some (.int .i64 k.2.2)) (ds := []) #[false, false, false, false, false, false, false, false, false, false, false, false, false, false] (by kernel_rfl) rfl rfl ⟨q0, k0, k1, k2, x0, x1, x2⟩ (fun hHeld => ?_)
  refine pure_ (i := 0) (N := some 32) (v := ?_) (a' := ?_) #[true, false, false, false, false, false, false, false, false, false, false, false, false, false] rfl rfl (by kernel_rfl) (fun _ _ _ h => h) (Or.inl ⟨by rfl, ?_⟩) ?_ ?_
  rotate_left
  · intro w'
    go_simp
    with_reducible rfl
  rotate_left
  · simp only [Act.put, List.setIfInBounds_toArray, List.set_cons_zero, List.set_cons_succ, i64_w, i32_w]
    rfl
  refine pure_ (i := 1) (N := some 33) (v := ?_) (a' := ?_) #[true, true, false, false, false, false, false, false, false, false, false, false, false, false] rfl rfl (by kernel_rfl) (fun _ _ _ h => h) (Or.inl ⟨by rfl, ?_⟩) ?_ ?_
  rotate_left
  · intro w'
    go_simp
    with_reducible rfl
  rotate_left
  · simp only [Act.put, List.setIfInBounds_toArray, List.set_cons_zero, List.set_cons_succ, i64_w, i32_w]
    rfl
  refine pure_ (i := 2) (N := some 34) (v := ?_) (a' := ?_) #[true, true, true, false, false, false, false, false, false, false, false, false, false, false] rfl rfl (by kernel_rfl) (fun _ _ _ h => h) (Or.inl ⟨by rfl, ?_⟩) ?_ ?_
  rotate_left
  · intro w'
    go_simp
    with_reducible rfl
  rotate_left
  · simp only [Act.put, List.setIfInBounds_toArray, List.set_cons_zero, List.set_cons_succ, i64_w, i32_w]
    rfl
  refine pure_ (i := 3) (N := some 35) (v := ?_) (a' := ?_) #[true, true, true, true, false, false, false, false, false, false, false, false, false, false] rfl rfl (by kernel_rfl) (fun _ _ _ h => h) (Or.inl ⟨by rfl, ?_⟩) ?_ ?_
  rotate_left
  · intro w'
    go_simp
    with_reducible rfl
  rotate_left
  · simp only [Act.put, List.setIfInBounds_toArray, List.set_cons_zero, List.set_cons_succ, i64_w, i32_w]
    rfl
  refine pure_ (i := 4) (N := some 36) (v := ?_) (a' := ?_) #[true, true, true, true, true, false, false, false, false, false, false, false, false, false] rfl rfl (by kernel_rfl) (fun _ _ _ h => h) (Or.inl ⟨by rfl, ?_⟩) ?_ ?_
  rotate_left
  · intro w'
    go_simp
    with_reducible rfl
  rotate_left
  · simp only [Act.put, List.setIfInBounds_toArray, List.set_cons_zero, List.set_cons_succ, i64_w, i32_w]
    rfl
  refine pure_ (i := 5) (N := some 37) (v := ?_) (a' := ?_) #[true, true, true, true, true, true, false, false, false, false, false, false, false, false] rfl rfl (by kernel_rfl) (fun _ _ _ h => h) (Or.inl ⟨by rfl, ?_⟩) ?_ ?_
  rotate_left
  · intro w'
    go_simp
    with_reducible rfl
  rotate_left
  · simp only [Act.put, List.setIfInBounds_toArray, List.set_cons_zero, List.set_cons_succ, i64_w, i32_w]
    rfl
  refine pure_ (i := 7) (N := some 39) (v := ?_) (a' := ?_) #[true, true, true, true, true, true, false, true, false, false, false, false, false, false] rfl rfl (by kernel_rfl) (fun _ _ _ h => h) (Or.inl ⟨by rfl, ?_⟩) ?_ ?_
  rotate_left
  · intro w'
    go_simp
    with_reducible rfl
  rotate_left
  · simp only [Act.put, List.setIfInBounds_toArray, List.set_cons_zero, List.set_cons_succ, i64_w, i32_w]
    rfl
  refine take_ (i := 6) (N := some 38) (v := ?_) (a' := ?_) #[true, true, true, true, true, true, true, true, false, false, false, false, false, false] rfl rfl (by kernel_rfl) (fun _ _ _ h => h) (Or.inl ⟨by rfl, ?_⟩) hHeld ?_ ?_
  rotate_left
  · rintro w' ⟨s0, s1, s2, s3, s4, s5, s6⟩
    go_simp
    with_reducible rfl
  rotate_left
  · simp only [Act.put, List.setIfInBounds_toArray, List.set_cons_zero, List.set_cons_succ, i64_w, i32_w]
    rfl
  refine pure_ (i := 8) (N := some 40) (v := ?_) (a' := ?_) #[true, true, true, true, true, true, true, true, true, false, false, false, false, false] rfl rfl (by kernel_rfl) (fun _ _ _ h => h) (Or.inl ⟨by rfl, ?_⟩) ?_ ?_
  rotate_left
  · intro w'
    go_simp
    with_reducible rfl
  rotate_left
  · simp only [Act.put, List.setIfInBounds_toArray, List.set_cons_zero, List.set_cons_succ, i64_w, i32_w]
    rfl
  refine pure_ (i := 9) (N := some 41) (v := ?_) (a' := ?_) #[true, true, true, true, true, true, true, true, true, true, false, false, false, false] rfl rfl (by kernel_rfl) (fun _ _ _ h => h) (Or.inl ⟨by rfl, ?_⟩) ?_ ?_
  rotate_left
  · intro w'
    go_simp
    with_reducible rfl
  rotate_left
  · simp only [Act.put, List.setIfInBounds_toArray, List.set_cons_zero, List.set_cons_succ, i64_w, i32_w]
    rfl
  refine take_ (i := 10) (N := some 42) (v := ?_) (a' := ?_) #[true, true, true, true, true, true, true, true, true, true, true, false, false, false] rfl rfl (by kernel_rfl) (fun _ _ _ h => h) (Or.inl ⟨by rfl, ?_⟩) hHeld ?_ ?_
  rotate_left
  · rintro w' ⟨s0, s1, s2, s3, s4, s5, s6⟩
    go_simp
    with_reducible rfl
  rotate_left
  · simp only [Act.put, List.setIfInBounds_toArray, List.set_cons_zero, List.set_cons_succ, i64_w, i32_w]
    rfl
  refine take_ (i := 11) (N := some 43) (v := ?_) (a' := ?_) #[true, true, true, true, true, true, true, true, true, true, true, true, false, false] rfl rfl (by kernel_rfl) (fun _ _ _ h => h) (Or.inl ⟨by rfl, ?_⟩) hHeld ?_ ?_
  rotate_left
  · rintro w' ⟨s0, s1, s2, s3, s4, s5, s6⟩
    go_simp
    with_reducible rfl
  rotate_left
  · simp only [Act.put, List.setIfInBounds_toArray, List.set_cons_zero, List.set_cons_succ, i64_w, i32_w]
    rfl
  refine pure_ (i := 12) (N := some 44) (v := ?_) (a' := ?_) #[true, true, true, true, true, true, true, true, true, true, true, true, true, false] rfl rfl (by kernel_rfl) (fun _ _ _ h => h) (Or.inl ⟨by rfl, ?_⟩) ?_ ?_
  rotate_left
  · intro w'
    go_simp
    with_reducible rfl
  rotate_left
  · simp only [Act.put, List.setIfInBounds_toArray, List.set_cons_zero, List.set_cons_succ, i64_w, i32_w]
    rfl
  refine pure_ (i := 13) (N := some 45) (v := ?_) (a' := ?_) #[true, true, true, true, true, true, true, true, true, true, true, true, true, true] rfl rfl (by kernel_rfl) (fun _ _ _ h => h) (Or.inl ⟨by rfl, ?_⟩) ?_ ?_
  rotate_left
  · intro w'
    go_simp
    with_reducible rfl
  rotate_left
  · simp only [Act.put, List.setIfInBounds_toArray, List.set_cons_zero, List.set_cons_succ, i64_w, i32_w]
    rfl
  refine done_ (by kernel_rfl) ?_
  simp only [HBQ.out]
  clear x0 x1 x2 k0 k1 k2 q0
  go_wp2
  go_ret
  exact ⟨rfl, below_drew1 HB3.out⟩
set_option maxHeartbeats 8000000 in
set_option maxRecDepth 100000 in
theorem sk_ins82z (g base most : Nat) (S : SL Int) (k : IK) (v : Int) (hh : Int) (w : World) (h : SkAt w g base S most) (hv : ikey_Valid.f k.1 k.2.1 k.2.2 = some true) (hlo : 1 ≤ hh) (hhi : hh ≤ 12) (hn : S.seek k = 0) (hfu : most ≤ S.nodes.length) :
    Calls Try.prog 13 #[.pointer (some ⟨g, 0, none⟩), .agg #[.string k.1, .int .u64 k.2.1, .int .i64 k.2.2], encV_ v, .int .i64 hh] w fun e w' => e = .returned (.int .i64 82) ∧ Below w.heap.size w w' := by
  obtain ⟨W1, hW1⟩ : ∃ W1, w.alloc (.cells #[.string k.1, .int .u64 k.2.1, .int .i64 k.2.2] 37) = W1 := ⟨_, rfl⟩
  have HB1 := Aside0.mk (show Below w.heap.size w W1 by rw [← hW1]; exact below_alloc (Below.refl _ _) _)
  have HX1 := Aside0.mk (show W1.heap[w.heap.size]? = some (.cells #[.string k.1, .int .u64 k.2.1, .int .i64 k.2.2] 37 (0, 0)) by rw [← hW1]; exact blk_new w _)
  have H1 := Aside0.mk (h.below HB1.out)
  have HE1 := Aside0.mk hW1
  have HF := Aside0.mk h.fine
  clear hW1
  have x0 := blk_cell HX1.out 0
  have x1 := blk_cell HX1.out 1
  have x2 := blk_cell HX1.out 2
  have HV := Aside0.mk hv
  have hkp := h.fine
  clear hv
  have a1 : decide (hh < 1) = false := decide_eq_false (by omega)
  have a2 : decide (hh > 12) = false := decide_eq_false (by omega)
  have HFU := Aside0.mk hfu
  have HN := Aside0.mk hn
  clear hn hfu
  clear h hkp
  go_enter Try.func13, Try.ntmps13
  go_wp2_with fail
  rw [HE1.out]
  (with_reducible refine (sk_none g base most S _ H1.out).mono ?_)
  rintro e w1 ⟨rfl, rfl⟩
  go_wp2_with fail
  (with_reducible refine (ikey_Valid.calls _ _ _ _ _ HV.out).mono ?_)
  rintro e w2 ⟨rfl, hb⟩
  have HB2 := Aside0.mk (below_step HB1.out hb)
  have H2 := Aside0.mk (H1.out.below hb)
  have HX2 := Aside0.mk (blk_below HX1.out hb)
  clear hb x0 x1 x2
  have x0 := blk_cell HX2.out 0
  have x1 := blk_cell HX2.out 1
  have x2 := blk_cell HX2.out 2
  go_wp2_with fail
  (with_reducible refine (sk_seek g base most S k _ H2.out).mono ?_)
  rintro e w3 ⟨rfl, hb⟩
  have HB3 := Aside0.mk (below_step HB2.out hb)
  have H3 := Aside0.mk (H2.out.below hb)
  have HX3 := Aside0.mk (blk_below HX2.out hb)
  clear hb x0 x1 x2
  rw [HN.out]
  have b3 : ((0 : Int) == 0) = true := rfl
  have b4 : ((0 : Int) != 0) = false := rfl
  go_wp2_with fail
  refine start_ (n := 14) (S := fun w' => True) (ds := []) #[false, false, false, false, false, false, false, false, false, false, false, false, false, false] (by kernel_rfl) rfl rfl trivial (fun hHeld => ?_)
  refine pure_ (i := 0) (N := some 32) (v := ?_) (a' := ?_) #[true, false, false, false, false, false, false, false, false, false, false, false, false, false] rfl rfl (by kernel_rfl) (fun _ _ _ h => h) (Or.inl ⟨by rfl, ?_⟩) ?_ ?_
  rotate_left
  · intro w'
    go_simp
    with_reducible rfl
  rotate_left
  · simp only [Act.put, List.setIfInBounds_toArray, List.set_cons_zero, List.set_cons_succ, i64_w, i32_w]
    rfl
  refine pure_ (i := 1) (N := some 33) (v := ?_) (a' := ?_) #[true, true, false, false, false, false, false, false, false, false, false, false, false, false] rfl rfl (by kernel_rfl) (fun _ _ _ h => h) (Or.inl ⟨by rfl, ?_⟩) ?_ ?_
  rotate_left
  · intro w'
    go_simp
    with_reducible rfl
  rotate_left
  · simp only [Act.put, List.setIfInBounds_toArray, List.set_cons_zero, List.set_cons_succ, i64_w, i32_w]
    rfl
  refine pure_ (i := 2) (N := some 34) (v := ?_) (a' := ?_) #[true, true, true, false, false, false, false, false, false, false, false, false, false, false] rfl rfl (by kernel_rfl) (fun _ _ _ h => h) (Or.inl ⟨by rfl, ?_⟩) ?_ ?_
  rotate_left
  · intro w'
    go_simp
    with_reducible rfl
  rotate_left
  · simp only [Act.put, List.setIfInBounds_toArray, List.set_cons_zero, List.set_cons_succ, i64_w, i32_w]
    rfl
  refine pure_ (i := 3) (N := some 35) (v := undef) (a' := ?_) #[true, true, true, true, false, false, false, false, false, false, false, false, false, false] rfl rfl (by kernel_rfl) (fun _ _ _ h => h) (Or.inr ⟨by rfl, rfl⟩) ?_ ?_
  rotate_left
  · simp only [Act.put, List.setIfInBounds_toArray, List.set_cons_zero, List.set_cons_succ, i64_w, i32_w]
    rfl
  refine pure_ (i := 4) (N := some 36) (v := undef) (a' := ?_) #[true, true, true, true, true, false, false, false, false, false, false, false, false, false] rfl rfl (by kernel_rfl) (fun _ _ _ h => h) (Or.inr ⟨by rfl, rfl⟩) ?_ ?_
  rotate_left
  · simp only [Act.put, List.setIfInBounds_toArray, List.set_cons_zero, List.set_cons_succ, i64_w, i32_w]
    rfl
  refine pure_ (i := 5) (N := some 37) (v := undef) (a' := ?_) #[true, true, true, true, true, true, false, false, false, false, false, false, false, false] rfl rfl (by kernel_rfl) (fun _ _ _ h => h) (Or.inr ⟨by rfl, rfl⟩) ?_ ?_
  rotate_left
  · simp only [Act.put, List.setIfInBounds_toArray, List.set_cons_zero, List.set_cons_succ, i64_w, i32_w]
    rfl
  refine pure_ (i := 6) (N := some 38) (v := undef) (a' := ?_) #[true, true, true, true, true, true, true, false, false, false, false, false, false, false] rfl rfl (by kernel_rfl) (fun _ _ _ h => h) (Or.inr ⟨by rfl, rfl⟩) ?_ ?_
  rotate_left
  · simp only [Act.put, List.setIfInBounds_toArray, List.set_cons_zero, List.set_cons_succ, i64_w, i32_w]
    rfl
  refine pure_ (i := 7) (N := some 39) (v := undef) (a' := ?_) #[true, true, true, true, true, true, true, true, false, false, false, false, false, false] rfl rfl (by kernel_rfl) (fun _ _ _ h => h) (Or.inr ⟨by rfl, rfl⟩) ?_ ?_
  rotate_left
  · simp only [Act.put, List.setIfInBounds_toArray, List.set_cons_zero, List.set_cons_succ, i64_w, i32_w]
    rfl
  refine pure_ (i := 8) (N := some 40) (v := undef) (a' := ?_) #[true, true, true, true, true, true, true, true, true, false, false, false, false, false] rfl rfl (by kernel_rfl) (fun _ _ _ h => h) (Or.inr ⟨by rfl, rfl⟩) ?_ ?_
  rotate_left
  · simp only [Act.put, List.setIfInBounds_toArray, List.set_cons_zero, List.set_cons_succ, i64_w, i32_w]
    rfl
  refine pure_ (i := 9) (N := some 41) (v := undef) (a' := ?_) #[true, true, true, true, true, true, true, true, true, true, false, false, false, false] rfl rfl (by kernel_rfl) (fun _ _ _ h => h) (Or.inr ⟨by rfl, rfl⟩) ?_ ?_
  rotate_left
  · simp only [Act.put, List.setIfInBounds_toArray, List.set_cons_zero, List.set_cons_succ, i64_w, i32_w]
    rfl
  refine pure_ (i := 10) (N := some 42) (v := undef) (a' := ?_) #[true, true, true, true, true, true, true, true, true, true, true, false, false, false] rfl rfl (by kernel_rfl) (fun _ _ _ h => h) (Or.inr ⟨by rfl, rfl⟩) ?_ ?_
  rotate_left
  · simp only [Act.put, List.setIfInBounds_toArray, List.set_cons_zero, List.set_cons_succ, i64_w, i32_w]
    rfl
  refine pure_ (i := 11) (N := some 43) (v := undef) (a' := ?_) #[true, true, true, true, true, true, true, true, true, true, true, true, false, false] rfl rfl (by kernel_rfl) (fun _ _ _ h => h) (Or.inr ⟨by rfl, rfl⟩) ?_ ?_
  rotate_left
  · simp only [Act.put, List.setIfInBounds_toArray, List.set_cons_zero, List.set_cons_succ, i64_w, i32_w]
    rfl
  refine pure_ (i := 12) (N := some 44) (v := undef) (a' := ?_) #[true, true, true, true, true, true, true, true, true, true, true, true, true, false] rfl rfl (by kernel_rfl) (fun _ _ _ h => h) (Or.inr ⟨by rfl, rfl⟩) ?_ ?_
  rotate_left
  · simp only [Act.put, List.setIfInBounds_toArray, List.set_cons_zero, List.set_cons_succ, i64_w, i32_w]
    rfl
  refine pure_ (i := 13) (N := some 45) (v := ?_) (a' := ?_) #[true, true, true, true, true, true, true, true, true, true, true, true, true, true] rfl rfl (by kernel_rfl) (fun _ _ _ h => h) (Or.inl ⟨by rfl, ?_⟩) ?_ ?_
  rotate_left
  · intro w'
    go_simp
    with_reducible rfl
  rotate_left
  · simp only [Act.put, List.setIfInBounds_toArray, List.set_cons_zero, List.set_cons_succ, i64_w, i32_w]
    rfl
  refine done_ (by kernel_rfl) ?_
  obtain ⟨b, c, ns, h1, _⟩ := (show SkAt w3.drew g base S most from H3.out.below (below_drew1 (Below.refl _ _))).reads
  have q0 : w3.drew.cell? ⟨g, 0, none⟩ = some (.slice (some ⟨b, 0, none⟩) (S.nodes.length + 1) c) := (blk_cell h1 0).trans rfl
  have q1 : w3.drew.cell? ⟨g, 1, none⟩ = some (.int .i64 (most : Int)) := (blk_cell h1 1).trans rfl
  obtain ⟨m, hm⟩ : ∃ m, S.nodes.length + 1 = m := ⟨_, rfl⟩
  rw [hm] at q0
  have b5 : decide ((m : Int) > (most : Int)) = true := decide_eq_true (by have := HFU.out; omega)
  have b6 : decide (most < m) = true := decide_eq_true (by have := HFU.out; omega)
  clear h1 hm
  go_wp2_with fail
  refine start_ (n := 10) (S := fun w' => w'.cell? ⟨g, 0, none⟩ = some (.slice (some ⟨b, 0, none⟩) m c) ∧ w'.cell? ⟨g, 1, none⟩ = some (.int .i64 (most : Int))) (ds := []) #[false, false, false, false, false, false, false, false, false, false] (by kernel_rfl) rfl rfl ⟨q0, q1⟩ (fun hHeld => ?_)
  refine pure_ (i := 0) (N := some 46) (v := ?_) (a' := ?_) #[true, false, false, false, false, false, false, false, false, false] rfl rfl (by kernel_rfl) (fun _ _ _ h => h) (Or.inl ⟨by rfl, ?_⟩) ?_ ?_
  rotate_left
  · intro w'
    go_simp
    with_reducible rfl
  rotate_left
  · simp only [Act.put, List.setIfInBounds_toArray, List.set_cons_zero, List.set_cons_succ, i64_w, i32_w]
    rfl
  refine pure_ (i := 1) (N := some 47) (v := ?_) (a' := ?_) #[true, true, false, false, false, false, false, false, false, false] rfl rfl (by kernel_rfl) (fun _ _ _ h => h) (Or.inl ⟨by rfl, ?_⟩) ?_ ?_
  rotate_left
  · intro w'
    go_simp
    with_reducible rfl
  rotate_left
  · simp only [Act.put, List.setIfInBounds_toArray, List.set_cons_zero, List.set_cons_succ, i64_w, i32_w]
    rfl
  refine pure_ (i := 2) (N := some 48) (v := ?_) (a' := ?_) #[true, true, true, false, false, false, false, false, false, false] rfl rfl (by kernel_rfl) (fun _ _ _ h => h) (Or.inl ⟨by rfl, ?_⟩) ?_ ?_
  rotate_left
  · intro w'
    go_simp
    with_reducible rfl
  rotate_left
  · simp only [Act.put, List.setIfInBounds_toArray, List.set_cons_zero, List.set_cons_succ, i64_w, i32_w]
    rfl
  refine pure_ (i := 5) (N := some 51) (v := ?_) (a' := ?_) #[true, true, true, false, false, true, false, false, false, false] rfl rfl (by kernel_rfl) (fun _ _ _ h => h) (Or.inl ⟨by rfl, ?_⟩) ?_ ?_
  rotate_left
  · intro w'
    go_simp
    with_reducible rfl
  rotate_left
  · simp only [Act.put, List.setIfInBounds_toArray, List.set_cons_zero, List.set_cons_succ, i64_w, i32_w]
    rfl
  refine pure_ (i := 6) (N := some 52) (v := ?_) (a' := ?_) #[true, true, true, false, false, true, true, false, false, false] rfl rfl (by kernel_rfl) (fun _ _ _ h => h) (Or.inl ⟨by rfl, ?_⟩) ?_ ?_
  rotate_left
  · intro w'
    go_simp
    with_reducible rfl
  rotate_left
  · simp only [Act.put, List.setIfInBounds_toArray, List.set_cons_zero, List.set_cons_succ, i64_w, i32_w]
    rfl
  refine pure_ (i := 7) (N := some 53) (v := ?_) (a' := ?_) #[true, true, true, false, false, true, true, true, false, false] rfl rfl (by kernel_rfl) (fun _ _ _ h => h) (Or.inl ⟨by rfl, ?_⟩) ?_ ?_
  rotate_left
  · intro w'
    go_simp
    with_reducible rfl
  rotate_left
  · simp only [Act.put, List.setIfInBounds_toArray, List.set_cons_zero, List.set_cons_succ, i64_w, i32_w]
    rfl
  refine take_ (i := 3) (N := some 49) (v := ?_) (a' := ?_) #[true, true, true, true, false, true, true, true, false, false] rfl rfl (by kernel_rfl) (fun _ _ _ h => h) (Or.inl ⟨by rfl, ?_⟩) hHeld ?_ ?_
  rotate_left
  · rintro w' ⟨s0, s1⟩
    go_simp
    with_reducible rfl
  rotate_left
  · simp only [Act.put, List.setIfInBounds_toArray, List.set_cons_zero, List.set_cons_succ, i64_w, i32_w]
    rfl
  refine pure_ (i := 4) (N := some 50) (v := ?_) (a' := ?_) #[true, true, true, true, true, true, true, true, false, false] rfl rfl (by kernel_rfl) (fun _ _ _ h => h) (Or.inl ⟨by rfl, ?_⟩) ?_ ?_
  rotate_left
  · intro w'
    go_simp
    with_reducible rfl
  rotate_left
  · simp only [Act.put, List.setIfInBounds_toArray, List.set_cons_zero, List.set_cons_succ, i64_w, i32_w]
    rfl
  refine take_ (i := 8) (N := some 54) (v := ?_) (a' := ?_) #[true, true, true, true, true, true, true, true, true, false] rfl rfl (by kernel_rfl) (fun _ _ _ h => h) (Or.inl ⟨by rfl, ?_⟩) hHeld ?_ ?_
  rotate_left
  · rintro w' ⟨s0, s1⟩
    go_simp
    with_reducible rfl
  rotate_left
  · simp only [Act.put, List.setIfInBounds_toArray, List.set_cons_zero, List.set_cons_succ, i64_w, i32_w]
    rfl
  refine pure_ (i := 9) (N := some 55) (v := ?_) (a' := ?_) #[true, true, true, true, true, true, true, true, true, true] rfl rfl (by kernel_rfl) (fun _ _ _ h => h) (Or.inl ⟨by rfl, ?_⟩) ?_ ?_
  rotate_left
  · intro w'
    go_simp
    with_reducible rfl
  rotate_left
  · simp only [Act.put, List.setIfInBounds_toArray, List.set_cons_zero, List.set_cons_succ, i64_w, i32_w]
    rfl
  refine done_ (by kernel_rfl) ?_
  first | simp only [b6] | simp only [b5] | skip
  clear q0 q1
  go_wp2
  go_ret
  exact ⟨rfl, below_drew1 (below_drew1 HB3.out)⟩
set_option maxHeartbeats 8000000 in
set_option maxRecDepth 100000 in
theorem sk_ins82n (g base most : Nat) (S : SL Int) (k : IK) (v : Int) (hh : Int) (w : World) (h : SkAt w g base S most) (hv : ikey_Valid.f k.1 k.2.1 k.2.2 = some true) (hlo : 1 ≤ hh) (hhi : hh ≤ 12) (n : Nat) (hn : S.seek k = n) (hn0 : n ≠ 0) (hk : S.key n ≠ k) (hfu : most ≤ S.nodes.length) :
    Calls Try.prog 13 #[.pointer (some ⟨g, 0, none⟩), .agg #[.string k.1, .int .u64 k.2.1, .int .i64 k.2.2], encV_ v, .int .i64 hh] w fun e w' => e = .returned (.int .i64 82) ∧ Below w.heap.size w w' := by
  obtain ⟨W1, hW1⟩ : ∃ W1, w.alloc (.cells #[.string k.1, .int .u64 k.2.1, .int .i64 k.2.2] 37) = W1 := ⟨_, rfl⟩
  have HB1 := Aside0.mk (show Below w.heap.size w W1 by rw [← hW1]; exact below_alloc (Below.refl _ _) _)
  have HX1 := Aside0.mk (show W1.heap[w.heap.size]? = some (.cells #[.string k.1, .int .u64 k.2.1, .int .i64 k.2.2] 37 (0, 0)) by rw [← hW1]; exact blk_new w _)
  have H1 := Aside0.mk (h.below HB1.out)
  have HE1 := Aside0.mk hW1
  have HF := Aside0.mk h.fine
  clear hW1
  have x0 := blk_cell HX1.out 0
  have x1 := blk_cell HX1.out 1
  have x2 := blk_cell HX1.out 2
  have HV := Aside0.mk hv
  have hkp := h.fine
  clear hv
  have a1 : decide (hh < 1) = false := decide_eq_false (by omega)
  have a2 : decide (hh > 12) = false := decide_eq_false (by omega)
  have HFU := Aside0.mk hfu
  have HZ := Aside0.mk (show 1 ≤ n ∧ n ≤ S.nodes.length from ⟨by omega, by rw [← hn]; exact seek_lt hkp.1 k⟩)
  have HN := Aside0.mk hn
  have HKK := Aside0.mk (show decide (S.key n = k) = false from decide_eq_false hk)
  clear hn0 hk hn hfu
  clear h hkp
  go_enter Try.func13, Try.ntmps13
  go_wp2_with fail
  rw [HE1.out]
  (with_reducible refine (sk_none g base most S _ H1.out).mono ?_)
  rintro e w1 ⟨rfl, rfl⟩
  go_wp2_with fail
  (with_reducible refine (ikey_Valid.calls _ _ _ _ _ HV.out).mono ?_)
  rintro e w2 ⟨rfl, hb⟩
  have HB2 := Aside0.mk (below_step HB1.out hb)
  have H2 := Aside0.mk (H1.out.below hb)
  have HX2 := Aside0.mk (blk_below HX1.out hb)
  clear hb x0 x1 x2
  have x0 := blk_cell HX2.out 0
  have x1 := blk_cell HX2.out 1
  have x2 := blk_cell HX2.out 2
  go_wp2_with fail
  (with_reducible refine (sk_seek g base most S k _ H2.out).mono ?_)
  rintro e w3 ⟨rfl, hb⟩
  have HB3 := Aside0.mk (below_step HB2.out hb)
  have H3 := Aside0.mk (H2.out.below hb)
  have HX3 := Aside0.mk (blk_below HX2.out hb)
  clear hb x0 x1 x2
  rw [HN.out]
  obtain ⟨b, c, ns, h1, h2, _, h4, hM⟩ := H3.out.reads
  obtain ⟨k0, k1, k2, y, hy, hyk, k3⟩ := h4 n HZ.out.1 (by have := HZ.out.2; omega)
  have q0 : w3.cell? ⟨g, 0, none⟩ = some (.slice (some ⟨b, 0, none⟩) (S.nodes.length + 1) c) := (blk_cell h1 0).trans rfl
  have hbq := ikey_beq (S.key n) k
  obtain ⟨⟨ks, kn, kd⟩, hkk⟩ : ∃ kk, S.key n = kk := ⟨_, rfl⟩
  rw [hkk] at k0 k1 k2 hbq
  dsimp only at k0 k1 k2 hbq
  have x0 := blk_cell HX3.out 0
  have x1 := blk_cell HX3.out 1
  have x2 := blk_cell HX3.out 2
  obtain ⟨m, hm⟩ : ∃ m, S.nodes.length + 1 = m := ⟨_, rfl⟩
  rw [hm] at q0
  have hnm : n < m := by have := HZ.out.2; omega
  have hmb : m ≤ 1048577 := by have := HF.out.2.1; omega
  have b3 : ((n : Int) == 0) = false := by have := HZ.out.1; simp; omega
  have b4 : ((n : Int) != 0) = true := by have := HZ.out.1; simp; omega
  have HBQ := Aside0.mk (hbq.trans (show decide ((ks, kn, kd) = k) = false by rw [← hkk]; exact HKK.out))
  clear h1 h2 h4 hM hy hyk hbq hkk hm k3
  go_wp2_with fail
  refine start_ (n := 14) (S := fun w' => w'.cell? ⟨g, 0, none⟩ = some (.slice (some ⟨b, 0, none⟩) m c) ∧ w'.cell? ⟨b, n * 18, none⟩ = some (.string ks) ∧ w'.cell? ⟨b, n * 18 + 1, none⟩ = some (.int .u64 kn) ∧ w'.cell? ⟨b, n * 18 + 2, none⟩ = some (.int .i64 kd) ∧ w'.cell? ⟨w.heap.size, 0, none⟩ = some (.string k.1) ∧ w'.cell? ⟨w.heap.size, 1, none⟩ = some (.int .u64 k.2.1) ∧ w'.cell? ⟨w.heap.size, 2, none⟩ = some (.int .i64 k.2.2)) (ds := []) #[false, false, false, false, false, false, false, false, false, false, false, false, false, false] (by kernel_rfl) rfl rfl ⟨q0, k0, k1, k2, x0, x1, x2⟩ (fun hHeld => ?_)
  refine pure_ (i := 0) (N := some 32) (v := ?_) (a' := ?_) #[true, false, false, false, false, false, false, false, false, false, false, false, false, false] rfl rfl (by kernel_rfl) (fun _ _ _ h => h) (Or.inl ⟨by rfl, ?_⟩) ?_ ?_
  rotate_left
  · intro w'
    go_simp
    with_reducible rfl
  rotate_left
  · simp only [Act.put, List.setIfInBounds_toArray, List.set_cons_zero, List.set_cons_succ, i64_w, i32_w]
    rfl
  refine pure_ (i := 1) (N := some 33) (v := ?_) (a' := ?_) #[true, true, false, false, false, false, false, false, false, false, false, false, false, false] rfl rfl (by kernel_rfl) (fun _ _ _ h => h) (Or.inl ⟨by rfl, ?_⟩) ?_ ?_
  rotate_left
  · intro w'
    go_simp
    with_reducible rfl
  rotate_left
  · simp only [Act.put, List.setIfInBounds_toArray, List.set_cons_zero, List.set_cons_succ, i64_w, i32_w]
    rfl
  refine pure_ (i := 2) (N := some 34) (v := ?_) (a' := ?_) #[true, true, true, false, false, false, false, false, false, false, false, false, false, false] rfl rfl (by kernel_rfl) (fun _ _ _ h => h) (Or.inl ⟨by rfl, ?_⟩) ?_ ?_
  rotate_left
  · intro w'
    go_simp
    with_reducible rfl
  rotate_left
  · simp only [Act.put, List.setIfInBounds_toArray, List.set_cons_zero, List.set_cons_succ, i64_w, i32_w]
    rfl
  refine pure_ (i := 3) (N := some 35) (v := ?_) (a' := ?_) #[true, true, true, true, false, false, false, false, false, false, false, false, false, false] rfl rfl (by kernel_rfl) (fun _ _ _ h => h) (Or.inl ⟨by rfl, ?_⟩) ?_ ?_
  rotate_left
  · intro w'
    go_simp
    with_reducible rfl
  rotate_left
  · simp only [Act.put, List.setIfInBounds_toArray, List.set_cons_zero, List.set_cons_succ, i64_w, i32_w]
    rfl
  refine pure_ (i := 4) (N := some 36) (v := ?_) (a' := ?_) #[true, true, true, true, true, false, false, false, false, false, false, false, false, false] rfl rfl (by kernel_rfl) (fun _ _ _ h => h) (Or.inl ⟨by rfl, ?_⟩) ?_ ?_
  rotate_left
  · intro w'
    go_simp
    with_reducible rfl
  rotate_left
  · simp only [Act.put, List.setIfInBounds_toArray, List.set_cons_zero, List.set_cons_succ, i64_w, i32_w]
    rfl
  refine pure_ (i := 5) (N := some 37) (v := ?_) (a' := ?_) #[true, true, true, true, true, true, false, false, false, false, false, false, false, false] rfl rfl (by kernel_rfl) (fun _ _ _ h => h) (Or.inl ⟨by rfl, ?_⟩) ?_ ?_
  rotate_left
  · intro w'
    go_simp
    with_reducible rfl
  rotate_left
  · simp only [Act.put, List.setIfInBounds_toArray, List.set_cons_zero, List.set_cons_succ, i64_w, i32_w]
    rfl
  refine pure_ (i := 7) (N := some 39) (v := ?_) (a' := ?_) #[true, true, true, true, true, true, false, true, false, false, false, false, false, false] rfl rfl (by kernel_rfl) (fun _ _ _ h => h) (Or.inl ⟨by rfl, ?_⟩) ?_ ?_
  rotate_left
  · intro w'
    go_simp
    with_reducible rfl
  rotate_left
  · simp only [Act.put, List.setIfInBounds_toArray, List.set_cons_zero, List.set_cons_succ, i64_w, i32_w]
    rfl
  refine take_ (i := 6) (N := some 38) (v := ?_) (a' := ?_) #[true, true, true, true, true, true, true, true, false, false, false, false, false, false] rfl rfl (by kernel_rfl) (fun _ _ _ h => h) (Or.inl ⟨by rfl, ?_⟩) hHeld ?_ ?_
  rotate_left
  · rintro w' ⟨s0, s1, s2, s3, s4, s5, s6⟩
    go_simp
    with_reducible rfl
  rotate_left
  · simp only [Act.put, List.setIfInBounds_toArray, List.set_cons_zero, List.set_cons_succ, i64_w, i32_w]
    rfl
  refine pure_ (i := 8) (N := some 40) (v := ?_) (a' := ?_) #[true, true, true, true, true, true, true, true, true, false, false, false, false, false] rfl rfl (by kernel_rfl) (fun _ _ _ h => h) (Or.inl ⟨by rfl, ?_⟩) ?_ ?_
  rotate_left
  · intro w'
    go_simp
    with_reducible rfl
  rotate_left
  · simp only [Act.put, List.setIfInBounds_toArray, List.set_cons_zero, List.set_cons_succ, i64_w, i32_w]
    rfl
  refine pure_ (i := 9) (N := some 41) (v := ?_) (a' := ?_) #[true, true, true, true, true, true, true, true, true, true, false, false, false, false] rfl rfl (by kernel_rfl) (fun _ _ _ h => h) (Or.inl ⟨by rfl, ?_⟩) ?_ ?_
  rotate_left
  · intro w'
    go_simp
    with_reducible rfl
  rotate_left
  · simp only [Act.put, List.setIfInBounds_toArray, List.set_cons_zero, List.set_cons_succ, i64_w, i32_w]
    rfl
  refine take_ (i := 10) (N := some 42) (v := ?_) (a' := ?_) #[true, true, true, true, true, true, true, true, true, true, true, false, false, false] rfl rfl (by kernel_rfl) (fun _ _ _ h => h) (Or.inl ⟨by rfl, ?_⟩) hHeld ?_ ?_
  rotate_left
  · rintro w' ⟨s0, s1, s2, s3, s4, s5, s6⟩
    go_simp
    with_reducible rfl
  rotate_left
  · simp only [Act.put, List.setIfInBounds_toArray, List.set_cons_zero, List.set_cons_succ, i64_w, i32_w]
    rfl
  refine take_ (i := 11) (N := some 43) (v := ?_) (a' := ?_) #[true, true, true, true, true, true, true, true, true, true, true, true, false, false] rfl rfl (by kernel_rfl) (fun _ _ _ h => h) (Or.inl ⟨by rfl, ?_⟩) hHeld ?_ ?_
  rotate_left
  · rintro w' ⟨s0, s1, s2, s3, s4, s5, s6⟩
    go_simp
    with_reducible rfl
  rotate_left
  · simp only [Act.put, List.setIfInBounds_toArray, List.set_cons_zero, List.set_cons_succ, i64_w, i32_w]
    rfl
  refine pure_ (i := 12) (N := some 44) (v := ?_) (a' := ?_) #[true, true, true, true, true, true, true, true, true, true, true, true, true, false] rfl rfl (by kernel_rfl) (fun _ _ _ h => h) (Or.inl ⟨by rfl, ?_⟩) ?_ ?_
  rotate_left
  · intro w'
    go_simp
    with_reducible rfl
  rotate_left
  · simp only [Act.put, List.setIfInBounds_toArray, List.set_cons_zero, List.set_cons_succ, i64_w, i32_w]
    rfl
  refine pure_ (i := 13) (N := some 45) (v := ?_) (a' := ?_) #[true, true, true, true, true, true, true, true, true, true, true, true, true, true] rfl rfl (by kernel_rfl) (fun _ _ _ h => h) (Or.inl ⟨by rfl, ?_⟩) ?_ ?_
  rotate_left
  · intro w'
    go_simp
    with_reducible rfl
  rotate_left
  · simp only [Act.put, List.setIfInBounds_toArray, List.set_cons_zero, List.set_cons_succ, i64_w, i32_w]
    rfl
  refine done_ (by kernel_rfl) ?_
  simp only [HBQ.out]
  clear x0 x1 x2 k0 k1 k2 q0
  obtain ⟨b, c, ns, h1, _⟩ := (show SkAt w3.drew g base S most from H3.out.below (below_drew1 (Below.refl _ _))).reads
  have q0 : w3.drew.cell? ⟨g, 0, none⟩ = some (.slice (some ⟨b, 0, none⟩) (S.nodes.length + 1) c) := (blk_cell h1 0).trans rfl
  have q1 : w3.drew.cell? ⟨g, 1, none⟩ = some (.int .i64 (most : Int)) := (blk_cell h1 1).trans rfl
  obtain ⟨m, hm⟩ : ∃ m, S.nodes.length + 1 = m := ⟨_, rfl⟩
  rw [hm] at q0
  have b5 : decide ((m : Int) > (most : Int)) = true := decide_eq_true (by have := HFU.out; omega)
  have b6 : decide (most < m) = true := decide_eq_true (by have := HFU.out; omega)
  clear h1 hm
  go_wp2_with fail
  refine start_ (n := 10) (S := fun w' => w'.cell? ⟨g, 0, none⟩ = some (.slice (some ⟨b, 0, none⟩) m c) ∧ w'.cell? ⟨g, 1, none⟩ = some (.int .i64 (most : Int))) (ds := []) #[false, false, false, false, false, false, false, false, false, false] (by kernel_rfl) rfl rfl ⟨q0, q1⟩ (fun hHeld => ?_)
  refine pure_ (i := 0) (N := some 46) (v := ?_) (a' := ?_) #[true, false, false, false, false, false, false, false, false, false] rfl rfl (by kernel_rfl) (fun _ _ _ h => h) (Or.inl ⟨by rfl, ?_⟩) ?_ ?_
  rotate_left
  · intro w'
    go_simp
    with_reducible rfl
  rotate_left
  · simp only [Act.put, List.setIfInBounds_toArray, List.set_cons_zero, List.set_cons_succ, i64_w, i32_w]
    rfl
  refine pure_ (i := 1) (N := some 47) (v := ?_) (a' := ?_) #[true, true, false, false, false, false, false, false, false, false] rfl rfl (by kernel_rfl) (fun _ _ _ h => h) (Or.inl ⟨by rfl, ?_⟩) ?_ ?_
  rotate_left
  · intro w'
    go_simp
    with_reducible rfl
  rotate_left
  · simp only [Act.put, List.setIfInBounds_toArray, List.set_cons_zero, List.set_cons_succ, i64_w, i32_w]
    rfl
  refine pure_ (i := 2) (N := some 48) (v := ?_) (a' := ?_) #[true, true, true, false, false, false, false, false, false, false] rfl rfl (by kernel_rfl) (fun _ _ _ h => h) (Or.inl ⟨by rfl, ?_⟩) ?_ ?_
  rotate_left
  · intro w'
    go_simp
    with_reducible rfl
  rotate_left
  · simp only [Act.put, List.setIfInBounds_toArray, List.set_cons_zero, List.set_cons_succ, i64_w, i32_w]
    rfl
  refine pure_ (i := 5) (N := some 51) (v := ?_) (a' := ?_) #[true, true, true, false, false, true, false, false, false, false] rfl rfl (by kernel_rfl) (fun _ _ _ h => h) (Or.inl ⟨by rfl, ?_⟩) ?_ ?_
  rotate_left
  · intro w'
    go_simp
    with_reducible rfl
  rotate_left
  · simp only [Act.put, List.setIfInBounds_toArray, List.set_cons_zero, List.set_cons_succ, i64_w, i32_w]
    rfl
  refine pure_ (i := 6) (N := some 52) (v := ?_) (a' := ?_) #[true, true, true, false, false, true, true, false, false, false] rfl rfl (by kernel_rfl) (fun _ _ _ h => h) (Or.inl ⟨by rfl, ?_⟩) ?_ ?_
  rotate_left
  · intro w'
    go_simp
    with_reducible rfl
  rotate_left
  · simp only [Act.put, List.setIfInBounds_toArray, List.set_cons_zero, List.set_cons_succ, i64_w, i32_w]
    rfl
  refine pure_ (i := 7) (N := some 53) (v := ?_) (a' := ?_) #[true, true, true, false, false, true, true, true, false, false] rfl rfl (by kernel_rfl) (fun _ _ _ h => h) (Or.inl ⟨by rfl, ?_⟩) ?_ ?_
  rotate_left
  · intro w'
    go_simp
    with_reducible rfl
  rotate_left
  · simp only [Act.put, List.setIfInBounds_toArray, List.set_cons_zero, List.set_cons_succ, i64_w, i32_w]
    rfl
  refine take_ (i := 3) (N := some 49) (v := ?_) (a' := ?_) #[true, true, true, true, false, true, true, true, false, false] rfl rfl (by kernel_rfl) (fun _ _ _ h => h) (Or.inl ⟨by rfl, ?_⟩) hHeld ?_ ?_
  rotate_left
  · rintro w' ⟨s0, s1⟩
    go_simp
    with_reducible rfl
  rotate_left
  · simp only [Act.put, List.setIfInBounds_toArray, List.set_cons_zero, List.set_cons_succ, i64_w, i32_w]
    rfl
  refine pure_ (i := 4) (N := some 50) (v := ?_) (a' := ?_) #[true, true, true, true, true, true, true, true, false, false] rfl rfl (by kernel_rfl) (fun _ _ _ h => h) (Or.inl ⟨by rfl, ?_⟩) ?_ ?_
  rotate_left
  · intro w'
    go_simp
    with_reducible rfl
  rotate_left
  · simp only [Act.put, List.setIfInBounds_toArray, List.set_cons_zero, List.set_cons_succ, i64_w, i32_w]
    rfl
  refine take_ (i := 8) (N := some 54) (v := ?_) (a' := ?_) #[true, true, true, true, true, true, true, true, true, false] rfl rfl (by kernel_rfl) (fun _ _ _ h => h) (Or.inl ⟨by rfl, ?_⟩) hHeld ?_ ?_
  rotate_left
  · rintro w' ⟨s0, s1⟩
    go_simp
    with_reducible rfl
  rotate_left
  · simp only [Act.put, List.setIfInBounds_toArray, List.set_cons_zero, List.set_cons_succ, i64_w, i32_w]
    rfl
  refine pure_ (i := 9) (N := some 55) (v := ?_) (a' := ?_) #[true, true, true, true, true, true, true, true, true, true] rfl rfl (by kernel_rfl) (fun _ _ _ h => h) (Or.inl ⟨by rfl, ?_⟩) ?_ ?_
  rotate_left
  · intro w'
    go_simp
    with_reducible rfl
  rotate_left
  · simp only [Act.put, List.setIfInBounds_toArray, List.set_cons_zero, List.set_cons_succ, i64_w, i32_w]
    rfl
  refine done_ (by kernel_rfl) ?_
  first | simp only [b6] | simp only [b5] | skip
  clear q0 q1
  go_wp2
  go_ret
  exact ⟨rfl, below_drew1 (below_drew1 HB3.out)⟩

end Go.Proofs.Ytehfcafmdnfamaa.G

/- Contracts typed by hand: levels and ways of a skiplist, plain -/
namespace Go.Proofs.Ytehfcafmdnfamaa.G
open Go.RowKit Go.Proofs.YtehfcafmdnfamaaW.PrintWords Go.Proofs.YtehfcafmdnfamaaW.PrintLast Go.Proofs.YtehfcafmdnfamaaW.PrintMore
attribute [local go_sem] max2_int min2_int max_two min_two max_three min_three max_four min_four
set_option linter.unusedVariables false
set_option linter.unusedSimpArgs false

/-! levels and ways of a skiplist, plain -/
def lvls {V : Type} (S : SL V) (j : Nat) (a : List Nat) : List Int := (a.filter fun z => decide (j < S.ht z)).map fun z : Nat => (z : Int)
/-- what Links tells -/
def lvl {V : Type} (S : SL V) (lv : Int) : List Int := if lv < 0 then [] else lvls S lv.toNat S.order
/-- what Trail tells -/
def trt {V : Type} (S : SL V) (k : IK) (lo n : Nat) : List Int := (List.range' lo n).reverse.map fun j : Nat => ((tr S.ht j (S.below k) : Nat) : Int)
theorem lvls_nil {V : Type} (S : SL V) (j : Nat) : lvls S j [] = [] := rfl
theorem lvls_none {V : Type} {S : SL V} {j : Nat} (a : List Nat) {c : List Nat} (h : ∀ z ∈ c, ¬ j < S.ht z) : lvls S j (a ++ c) = lvls S j a := by
  have hc : (c.filter fun z => decide (j < S.ht z)) = [] := List.filter_eq_nil_iff.2 (fun z hz => by simpa using h z hz)
  unfold lvls
  rw [List.filter_append, hc, List.append_nil]
theorem lvls_step {V : Type} {S : SL V} {j z : Nat} (a : List Nat) {c : List Nat} (h : ∀ u ∈ c, ¬ j < S.ht u) (hz : j < S.ht z) : lvls S j (a ++ c ++ [z]) = lvls S j a ++ [(z : Int)] := by
  have := lvls_none a h
  unfold lvls at this ⊢
  rw [List.filter_append, List.map_append, this]
  simp [hz]
theorem lvls_len {V : Type} (S : SL V) (j : Nat) (a : List Nat) : (lvls S j a).length ≤ a.length := by
  unfold lvls
  rw [List.length_map]
  exact List.length_filter_le _ _
theorem lvl_neg {V : Type} (S : SL V) {lv : Int} (h : lv < 0) : lvl S lv = [] := if_pos h
theorem lvl_nat {V : Type} (S : SL V) (j : Nat) : lvl S (j : Int) = lvls S j S.order := by
  unfold lvl
  rw [if_neg (show ¬ (j : Int) < 0 by omega), Int.toNat_natCast]
theorem lvls_high {V : Type} {S : SL V} (hS : S.Fine) {j : Nat} (h : S.height ≤ j) : lvls S j S.order = [] := by
  have := lvls_none (S := S) (j := j) [] (c := S.order) fun z hz => by
    have := S.ht_le hS hz
    omega
  rwa [List.nil_append] at this
theorem trt_step {V : Type} (S : SL V) (k : IK) (lo n : Nat) : trt S k lo (n + 1) = trt S k (lo + 1) n ++ [((tr S.ht lo (S.below k) : Nat) : Int)] := by
  unfold trt
  rw [List.range'_succ, List.reverse_cons, List.map_append]; rfl
theorem trt_len {V : Type} (S : SL V) (k : IK) (lo n : Nat) : (trt S k lo n).length = n := by simp [trt]

end Go.Proofs.Ytehfcafmdnfamaa.G

/- Contracts typed by hand: Insert's answers, lists made of puts: plain -/
namespace Go.Proofs.Ytehfcafmdnfamaa.G
open Go.RowKit Go.Proofs.YtehfcafmdnfamaaW.PrintWords Go.Proofs.YtehfcafmdnfamaaW.PrintLast Go.Proofs.YtehfcafmdnfamaaW.PrintMore
attribute [local go_sem] max2_int min2_int max_two min_two max_three min_three max_four min_four
set_option linter.unusedVariables false
set_option linter.unusedSimpArgs false

/-! Insert's answers, lists made of puts: plain -/
def vk (k : IK) : Bool := (ikey_Valid.f k.1 k.2.1 k.2.2).getD false
theorem vk_eq (k : IK) : ikey_Valid.f k.1 k.2.1 k.2.2 = some (vk k) := by
  unfold vk
  cases h : ikey_Valid.f k.1 k.2.1 k.2.2 with
  | some b => rfl
  | none =>
    exfalso
    rw [valid_eq] at h
    unfold moraineref03_Valid.f moraineref03_kind.f at h
    revert h
    repeat' split
    all_goals simp
section
variable {V : Type}
def insC (S : SL V) (most : Nat) (k : IK) (hh : Int) : Int :=
  if vk k = false then 30 else if hh < 1 ∨ 12 < hh then 2 else if S.find k ≠ 0 then 81 else if most ≤ S.nodes.length then 82 else 0
def insS (S : SL V) (most : Nat) (k : IK) (v : V) (hh : Int) : SL V := if insC S most k hh = 0 then S.put k v hh.toNat else S
theorem insC_zero {S : SL V} {most : Nat} {k : IK} {hh : Int} (h : insC S most k hh = 0) : vk k = true ∧ 1 ≤ hh ∧ hh ≤ 12 ∧ S.find k = 0 ∧ S.nodes.length < most := by
  unfold insC at h
  by_cases c1 : vk k = false
  · rw [if_pos c1] at h; omega
  · rw [if_neg c1] at h
    by_cases c2 : hh < 1 ∨ 12 < hh
    · rw [if_pos c2] at h; omega
    · rw [if_neg c2] at h
      by_cases c3 : S.find k ≠ 0
      · rw [if_pos c3] at h; omega
      · rw [if_neg c3] at h
        by_cases c4 : most ≤ S.nodes.length
        · rw [if_pos c4] at h; omega
        · exact ⟨by simpa using c1, by omega, by omega, by omega, by omega⟩
theorem fine_ins {S : SL V} (hS : S.Fine) (most : Nat) (k : IK) (v : V) (hh : Int) : (insS S most k v hh).Fine := by
  unfold insS
  split
  · rename_i h
    obtain ⟨_, h1, h2, h3, _⟩ := insC_zero h
    exact SL.fine_put hS h3 v (by omega) (by omega)
  · exact hS
/-- the same keys, in the same order, with what belongs to them -/
structure Alike (S T : SL V) : Prop where
  order : S.order = T.order
  nodes : S.nodes.map (fun x => (x.1, x.2.1)) = T.nodes.map (fun x => (x.1, x.2.1))
namespace Alike
variable {S T : SL V}
theorem refl (S : SL V) : Alike S S := ⟨rfl, rfl⟩
theorem len (h : Alike S T) : S.nodes.length = T.nodes.length := by simpa using congrArg List.length h.nodes
theorem node (h : Alike S T) (z : Nat) : S.nodes[z]?.map (fun x => (x.1, x.2.1)) = T.nodes[z]?.map (fun x => (x.1, x.2.1)) := by
  have e := congrArg (fun l => l[z]?) h.nodes
  simpa only [List.getElem?_map] using e
theorem key (h : Alike S T) (z : Nat) : S.key z = T.key z := by
  have e := h.node (z - 1)
  unfold SL.key
  cases h1 : S.nodes[z - 1]? <;> cases h2 : T.nodes[z - 1]? <;> rw [h1, h2] at e <;> simp at e ⊢
  exact e.1
theorem below (h : Alike S T) (k : IK) : S.below k = T.below k := by
  unfold SL.below
  rw [h.order]
  exact List.filter_congr fun z _ => by rw [h.key]
theorem rest (h : Alike S T) (k : IK) : S.rest k = T.rest k := by
  unfold SL.rest
  rw [h.order]
  exact List.filter_congr fun z _ => by rw [h.key]
theorem seek (h : Alike S T) (k : IK) : S.seek k = T.seek k := by unfold SL.seek; rw [h.rest]
theorem before (h : Alike S T) (k : IK) : S.before k = T.before k := by unfold SL.before; rw [h.below]
theorem find (h : Alike S T) (k : IK) : S.find k = T.find k := by unfold SL.find; rw [h.seek, h.key]
theorem put (h : Alike S T) (k : IK) (v : V) (a b : Nat) : Alike (S.put k v a) (T.put k v b) :=
  ⟨by show S.below k ++ (S.nodes.length + 1) :: S.rest k = T.below k ++ (T.nodes.length + 1) :: T.rest k; rw [h.below, h.rest, h.len], by simp only [SL.put, List.map_append, h.nodes, List.map_cons, List.map_nil]⟩
theorem insC (h : Alike S T) (most : Nat) (k : IK) {a b : Int} (ha : 1 ≤ a ∧ a ≤ 12) (hb : 1 ≤ b ∧ b ≤ 12) : G.insC S most k a = G.insC T most k b := by
  unfold G.insC
  rw [h.find, h.len, if_neg (show ¬ (a < 1 ∨ 12 < a) by omega), if_neg (show ¬ (b < 1 ∨ 12 < b) by omega)]
end Alike
end
/-- a list made of puts, and which of them were taken -/
def madeS (hf : Int → Nat) : List (IK × Int) → Nat → SL Int → List Int → SL Int × List Int
  | [], _, S, t => (S, t)
  | p :: l, i, S, t => if insC S 1048576 p.1 (hf p.2 : Int) = 0 then madeS hf l (i + 1) (S.put p.1 (i : Int) (hf p.2)) (t ++ [(i : Int)]) else madeS hf l (i + 1) S t
structure Made (S : SL Int) (t : List Int) : Prop where
  fine : S.Fine
  vals : S.nodes.map (fun x => x.2.1) = t
theorem Made.len {S : SL Int} {t : List Int} (h : Made S t) : t.length = S.nodes.length := by rw [← h.vals, List.length_map]
theorem Made.put {S : SL Int} {t : List Int} (h : Made S t) {k : IK} {most : Nat} {a : Nat} (hz : insC S most k (a : Int) = 0) (i : Int) : Made (S.put k i a) (t ++ [i]) := by
  obtain ⟨_, h1, h2, h3, _⟩ := insC_zero hz
  exact ⟨SL.fine_put h.fine h3 i (by omega) (by omega), by simp [SL.put, ← h.vals]⟩
theorem madeS_made (hf : Int → Nat) : ∀ (l : List (IK × Int)) (i : Nat) (S : SL Int) (t : List Int), Made S t → Made (madeS hf l i S t).1 (madeS hf l i S t).2
  | [], _, _, _, h => h
  | p :: l, i, S, t, h => by
    rw [madeS]
    split
    · rename_i hz
      exact madeS_made hf l (i + 1) _ _ (h.put hz i)
    · exact madeS_made hf l (i + 1) S t h
theorem madeS_alike {hf hg : Int → Nat} (h1 : ∀ x, 1 ≤ hf x ∧ hf x ≤ 12) (h2 : ∀ x, 1 ≤ hg x ∧ hg x ≤ 12) : ∀ (l : List (IK × Int)) (i : Nat) (S T : SL Int) (t : List Int), Alike S T →
    Alike (madeS hf l i S t).1 (madeS hg l i T t).1 ∧ (madeS hf l i S t).2 = (madeS hg l i T t).2
  | [], _, _, _, _, h => ⟨h, rfl⟩
  | p :: l, i, S, T, t, h => by
    have a1 := h1 p.2
    have a2 := h2 p.2
    rw [madeS, madeS, h.insC 1048576 p.1 (a := (hf p.2 : Int)) (b := (hg p.2 : Int)) (by omega) (by omega)]
    split
    · exact madeS_alike h1 h2 l (i + 1) _ _ _ (h.put p.1 (i : Int) _ _)
    · exact madeS_alike h1 h2 l (i + 1) S T t h
theorem made_nil : Made SL.nil [] := ⟨SL.fine_nil, rfl⟩
/-! levels -/
section
variable {V : Type} {S : SL V}
theorem lvls_zero (hS : S.Fine) : lvls S 0 S.order = S.order.map fun z : Nat => (z : Int) := by
  unfold lvls
  rw [List.filter_eq_self.2 fun z hz => by have := S.ht_pos hS hz; simp; omega]
theorem lvls_sub (a : List Nat) (j : Nat) : List.Sublist (lvls S (j + 1) a) (lvls S j a) := by
  unfold lvls
  refine List.Sublist.map _ ?_
  induction a with
  | nil => exact List.Sublist.refl _
  | cons z a ih =>
    by_cases h : j + 1 < S.ht z
    · rw [List.filter_cons_of_pos (by simpa using h), List.filter_cons_of_pos (by simp; omega)]
      exact ih.cons_cons z
    · rw [List.filter_cons_of_neg (by simpa using h)]
      by_cases h2 : j < S.ht z
      · rw [List.filter_cons_of_pos (by simpa using h2)]
        exact ih.cons z
      · rw [List.filter_cons_of_neg (by simpa using h2)]
        exact ih
theorem lvls_ne (hS : S.Fine) {j : Nat} (h : j < S.height) : lvls S j S.order ≠ [] := by
  obtain ⟨z, hz, e⟩ := SL.height_top hS (by omega)
  intro h0
  have : ((z : Int)) ∈ lvls S j S.order := by
    unfold lvls
    exact List.mem_map.2 ⟨z, List.mem_filter.2 ⟨hz, by simp; omega⟩, rfl⟩
  rw [h0] at this
  cases this
theorem height_zero (hS : S.Fine) : S.height = 0 ↔ S.nodes.length = 0 := by
  constructor
  · intro h
    cases hn : S.nodes with
    | nil => rfl
    | cons x l =>
      exfalso
      have hm : 1 ∈ S.order := hS.all 1 (Nat.le_refl _) (by rw [hn]; simp)
      have := (S.ht_pos hS hm).1
      have := SL.ht_le hS hm
      omega
  · intro h
    unfold SL.height
    rw [List.length_eq_zero_iff.1 h]; rfl
/-- the last one of a level's nodes that is below a key -/
theorem tr_links (k : IK) (j : Nat) : tr S.ht j (S.below k) = lastOf ((S.order.filter fun z => decide (j < S.ht z)).filter fun z => kl (S.key z) k) := by
  unfold tr SL.below
  rw [List.filter_filter, List.filter_filter]
  congr 1
  exact List.filter_congr fun z _ => Bool.and_comm _ _
theorem order_before (hS : S.Fine) (k : IK) (h : S.before k ≠ 0) : ∃ a, S.order = a ++ S.before k :: S.rest k ∧ S.below k = a ++ [S.before k] := by
  have hne : S.below k ≠ [] := by
    intro e
    exact h (by unfold SL.before; rw [e]; rfl)
  obtain ⟨a, e⟩ := lastOf_split hne
  refine ⟨a, ?_, e⟩
  have := S.part hS k
  rw [this]
  show S.below k ++ S.rest k = a ++ lastOf (S.below k) :: S.rest k
  generalize lastOf (S.below k) = z at *
  rw [e]; simp
theorem before_zero (hS : S.Fine) (k : IK) (h : S.before k = 0) : S.below k = [] := by
  cases hb : S.below k with
  | nil => rfl
  | cons z l =>
    exfalso
    have hne : S.below k ≠ [] := by rw [hb]; simp
    have := (hS.mem _ (SL.mem_below (lastOf_mem hne)).1).1
    have : lastOf (S.below k) = 0 := h
    omega
end

end Go.Proofs.Ytehfcafmdnfamaa.G

/- Contracts typed by hand: a skiplist in memory: Insert, whatever it answers (values: whole numbers) -/
namespace Go.Proofs.Ytehfcafmdnfamaa.G
open Go.RowKit Go.Proofs.YtehfcafmdnfamaaW.PrintWords Go.Proofs.YtehfcafmdnfamaaW.PrintLast Go.Proofs.YtehfcafmdnfamaaW.PrintMore
attribute [local go_sem] max2_int min2_int max_two min_two max_three min_three max_four min_four
set_option linter.unusedVariables false
set_option linter.unusedSimpArgs false

/-! a skiplist in memory: Insert, whatever it answers (values: whole numbers) -/
/-- what an Insert may turn: the list itself and its nodes -/
def Turns (w : World) (g base : Nat) (i : Nat) : Prop := i = g ∨ (base ≤ i ∧ ∃ cs, w.heap[i]? = some (.cells cs 84 (0, 0)))
/-- a list that stands somewhere in memory, and all that may lie beside it -/
theorem sk_insert (g base most : Nat) (S : SL Int) (k : IK) (v : Int) (hh : Int) (w : World) (h : SkAt w g base S most) :
    Calls Try.prog 13 #[.pointer (some ⟨g, 0, none⟩), .agg #[.string k.1, .int .u64 k.2.1, .int .i64 k.2.2], encV_ v, .int .i64 hh] w fun e w' => e = .returned (.int .i64 (insC S most k hh)) ∧ SkAt w' g base (insS S most k v hh) most ∧ Below base w w' ∧ Kept w w' (Turns w g base) := by
  have hbg : base ≤ g := by obtain ⟨_, _, _, _, _, _, _, hb, _⟩ := h; exact hb
  have hgw := h.lt
  have keep : ∀ (c : Int), c ≠ 0 → insC S most k hh = c → ∀ (e : Ending) (w' : World), e = .returned (.int .i64 c) ∧ Below w.heap.size w w' → e = .returned (.int .i64 (insC S most k hh)) ∧ SkAt w' g base (insS S most k v hh) most ∧ Below base w w' ∧ Kept w w' (Turns w g base) := by
    rintro c hc hi e w' ⟨rfl, hb⟩
    refine ⟨by rw [hi], ?_, ⟨hb.os, hb.tape, hb.output, hb.size, fun q hq => hb.block q (by omega)⟩, Kept.of_below hb _⟩
    unfold insS
    rw [if_neg (by rw [hi]; exact hc)]
    exact h.below hb
  have hv := vk_eq k
  cases hvk : vk k with
  | false =>
    rw [hvk] at hv
    exact (sk_ins30 g base most S k v hh w h hv).mono (keep 30 (by omega) (by unfold insC; rw [if_pos hvk]))
  | true =>
    rw [hvk] at hv
    by_cases c1 : hh < 1
    · exact (sk_ins2 g base most S k v hh w h hv c1).mono (keep 2 (by omega) (by unfold insC; rw [if_neg (by rw [hvk]; simp), if_pos (Or.inl c1)]))
    by_cases c2 : 12 < hh
    · exact (sk_ins2h g base most S k v hh w h hv c2).mono (keep 2 (by omega) (by unfold insC; rw [if_neg (by rw [hvk]; simp), if_pos (Or.inr c2)]))
    have hr : ¬ (hh < 1 ∨ 12 < hh) := by omega
    by_cases c3 : S.seek k = 0
    · have hf : S.find k = 0 := by unfold SL.find; rw [if_neg (by rintro ⟨h1, _⟩; exact h1 c3)]
      by_cases c5 : most ≤ S.nodes.length
      · exact (sk_ins82z g base most S k v hh w h hv (by omega) (by omega) c3 c5).mono (keep 82 (by omega) (by unfold insC; rw [if_neg (by rw [hvk]; simp), if_neg hr, if_neg (by rw [hf]; simp), if_pos c5]))
      · have hi : insC S most k hh = 0 := by unfold insC; rw [if_neg (by rw [hvk]; simp), if_neg hr, if_neg (by rw [hf]; simp), if_neg c5]
        obtain ⟨h0, rfl⟩ := Int.eq_ofNat_of_zero_le (show 0 ≤ hh by omega)
        refine (sk_ins0z g base most S k v h0 w h hv (by omega) (by omega) c3 (by omega)).mono ?_
        rintro e w' ⟨rfl, h1, h2, h3⟩
        refine ⟨by rw [hi], ?_, h2, h3⟩
        unfold insS
        rw [if_pos hi, Int.toNat_natCast]
        exact h1
    · by_cases c4 : S.key (S.seek k) = k
      · have hf : S.find k = S.seek k := by unfold SL.find; rw [if_pos ⟨c3, c4⟩]
        exact (sk_ins81 g base most S k v hh w h hv (by omega) (by omega) _ rfl c3 c4).mono (keep 81 (by omega) (by unfold insC; rw [if_neg (by rw [hvk]; simp), if_neg hr, if_pos (by rw [hf]; exact c3)]))
      · have hf : S.find k = 0 := by unfold SL.find; rw [if_neg (by rintro ⟨_, h1⟩; exact c4 h1)]
        by_cases c5 : most ≤ S.nodes.length
        · exact (sk_ins82n g base most S k v hh w h hv (by omega) (by omega) _ rfl c3 c4 c5).mono (keep 82 (by omega) (by unfold insC; rw [if_neg (by rw [hvk]; simp), if_neg hr, if_neg (by rw [hf]; simp), if_pos c5]))
        · have hi : insC S most k hh = 0 := by unfold insC; rw [if_neg (by rw [hvk]; simp), if_neg hr, if_neg (by rw [hf]; simp), if_neg c5]
          obtain ⟨h0, rfl⟩ := Int.eq_ofNat_of_zero_le (show 0 ≤ hh by omega)
          refine (sk_ins0n g base most S k v h0 w h hv (by omega) (by omega) _ rfl c3 c4 (by omega)).mono ?_
          rintro e w' ⟨rfl, h1, h2, h3⟩
          refine ⟨by rw [hi], ?_, h2, h3⟩
          unfold insS
          rw [if_pos hi, Int.toNat_natCast]
          exact h1
/-- a block of another type stays -/
theorem turns_blk {w w' : World} {g base most : Nat} {S : SL Int} (hk : Kept w w' (Turns w g base)) (h : SkAt w g base S most) {i : Nat} {cs : Array Value} {t : TypeId} {m : Nat × Nat} (hi : w.heap[i]? = some (.cells cs t m)) (h1 : t ≠ 78) (h2 : t ≠ 84) : w'.heap[i]? = some (.cells cs t m) := by
  refine (hk.2 i (blk_lt hi) ?_).trans hi
  rintro (rfl | ⟨_, cs', hc⟩)
  · obtain ⟨b, c, ns, hb, _⟩ := h
    rw [hb] at hi
    injection hi with hi
    injection hi with _ hi _
    exact h1 hi.symm
  · rw [hc] at hi
    injection hi with hi
    injection hi with _ hi _
    exact h2 hi.symm
theorem turns_ints {w w' : World} {g base most b2 : Nat} {S : SL Int} {v : Value} {l : List Int} (hk : Kept w w' (Turns w g base)) (h : SkAt w g base S most) (hr : Kd.R (Kd.int .i64) 3 w b2 (fun _ => True) v l) : Kd.R (Kd.int .i64) 3 w' b2 (fun _ => True) v l := by
  obtain ⟨h0, inner, ho, hrr⟩ := hr
  refine ⟨h0, inner, own_move ho fun q hq => ?_, hrr.imp_ (fun _ _ hp => hp)⟩
  obtain ⟨cs, hc⟩ := own_typed ho q hq
  rw [turns_blk hk h hc (by decide) (by decide), hc]
theorem Turns.le {w : World} {g base i : Nat} (h : Turns w g base i) (hg : base ≤ g) : base ≤ i := by
  rcases h with rfl | h
  · exact hg
  · exact h.1
/-- another list stays -/
theorem SkAt.other {w w' : World} {g base most g2 base2 most2 : Nat} {S S2 : SL Int} (h : SkAt w g2 base2 S2 most2) (hk : Kept w w' (Turns w g base)) (ho : SkAt w g base S most) (hlt : base2 ≤ base) (hsep : ∃ N, base = N ∧ g2 < N ∧ ∀ b c n, w.cell? ⟨g2, 0, none⟩ = some (.slice (some ⟨b, 0, none⟩) n c) → b < N) : SkAt w' g2 base2 S2 most2 := by
  obtain ⟨N, rfl, hg, hb⟩ := hsep
  obtain ⟨b, c, ns, h1, h2, h3⟩ := h
  have hbg : base ≤ g := by obtain ⟨_, _, _, _, _, _, _, hb, _⟩ := ho; exact hb
  have hbb := hb b c ns.length ((blk_cell h1 0).trans rfl)
  refine ⟨b, c, ns, (hk.2 g2 (blk_lt h1) fun ht => ?_).trans h1, ndR_move h2 fun q hq => ?_, h3⟩
  · have := ht.le hbg; omega
  · have : b = q := by simpa [Value.ownBlock] using hq
    subst this
    refine hk.2 b ?_ fun ht => ?_
    · obtain ⟨inner, hown⟩ := Kd.R_own h2
      obtain ⟨cs, hc⟩ := own_typed hown b rfl
      exact blk_lt hc
    · have := ht.le hbg; omega

end Go.Proofs.Ytehfcafmdnfamaa.G

/- Contracts typed by hand: a skiplist in memory: All, its iterator (values: whole numbers) -/
namespace Go.Proofs.Ytehfcafmdnfamaa.G
open Go.RowKit Go.Proofs.YtehfcafmdnfamaaW.PrintWords Go.Proofs.YtehfcafmdnfamaaW.PrintLast Go.Proofs.YtehfcafmdnfamaaW.PrintMore
attribute [local go_sem] max2_int min2_int max_two min_two max_three min_three max_four min_four
set_option linter.unusedVariables false
set_option linter.unusedSimpArgs false

/-! a skiplist in memory: All, its iterator (values: whole numbers) -/
open Go.Shelf
attribute [local go_sem] Oper.semAt_some
def ordI {V : Type} (S : SL V) : List Int := S.order.map fun z : Nat => (z : Int)
/-- an iterator's boxes: the list, the order -/
structure AllAt (w : World) (n g : Nat) (v : Value) (l : List Int) : Prop where
  lst : w.heap[n]? = some (.cells #[.pointer (some ⟨g, 0, none⟩)] 23 (0, 0))
  box : w.heap[n + 1]? = some (.cells #[v] 28 (0, 0))
  row : Kd.R (Kd.int .i64) 3 w n (fun _ => True) v l
theorem intR_move {w w1 : World} {base : Nat} {v : Value} {l : List Int} (h : Kd.R (Kd.int .i64) 3 w base (fun _ => True) v l) (hm : ∀ k, v.ownBlock = some k → w1.heap[k]? = w.heap[k]?) : Kd.R (Kd.int .i64) 3 w1 base (fun _ => True) v l := by
  obtain ⟨h0, inner, ho, hr⟩ := h
  exact ⟨h0, inner, own_move ho hm, hr.imp_ (fun _ _ hp => hp)⟩
theorem AllAt.below {w w1 : World} {n g : Nat} {v : Value} {l : List Int} (h : AllAt w n g v l) (hb : Below w.heap.size w w1) : AllAt w1 n g v l :=
  ⟨(hb.block _ (blk_lt h.lst)).trans h.lst, (hb.block _ (blk_lt h.box)).trans h.box, Kd.R_below h.row hb⟩
set_option maxHeartbeats 8000000 in
set_option maxRecDepth 100000 in
theorem sk_all (g base most : Nat) (S : SL Int) (w : World) (h : SkAt w g base S most) : Calls Try.prog 15 #[.pointer (some ⟨g, 0, none⟩)] w fun e w' => ∃ v, e = .returned (.func (.func 45) #[] #[.pointer (some ⟨w.heap.size + 1, 0, none⟩), .pointer (some ⟨w.heap.size, 0, none⟩)]) ∧ AllAt w' w.heap.size g v (ordI S) ∧ Below w.heap.size w w' := by
  have HS := Aside0.mk h.fine
  have HSK := Aside0.mk (fun W (hb : Below w.heap.size w W) => h.below hb)
  obtain ⟨W0, hW0⟩ : ∃ W0, (w.alloc (.cells #[.pointer (some ⟨g, 0, none⟩)] 23)).alloc (.cells #[.slice none 0 0] 28) = W0 := ⟨_, rfl⟩
  have hx1 := World.alloc_heap_new (w.alloc (.cells #[.pointer (some ⟨g, 0, none⟩)] 23)) (.cells #[.slice none 0 0] 28)
  have hx0 := World.alloc_heap_new w (.cells #[.pointer (some ⟨g, 0, none⟩)] 23)
  rw [World.size_alloc, hW0] at hx1
  have hx0' : W0.heap[w.heap.size]? = some (.cells #[.pointer (some ⟨g, 0, none⟩)] 23 (0, 0)) := by rw [← hW0]; exact (Below.heap_alloc _ _ _ (by rw [World.size_alloc]; omega)).trans hx0
  have HX0 := Aside0.mk hx0'
  have HX1 := Aside0.mk hx1
  have HB := Aside0.mk (show Below w.heap.size w W0 by rw [← hW0]; exact below_alloc (below_alloc (Below.refl _ _) _) _)
  have HW := Aside0.mk hW0
  have HLO := Aside0.mk (show S.order.length ≤ 1048576 by rw [h.fine.1.len]; exact h.fine.2.1)
  obtain ⟨z0, hz0⟩ : ∃ z0, S.order.headD 0 = z0 := ⟨_, rfl⟩
  have HF := Aside0.mk (sk_first g base most S W0 (HSK.out _ HB.out))
  rw [hz0] at HF
  have HZ0 := Aside0.mk hz0
  clear h hx0 hx1 hx0' hW0 hz0
  go_enter Try.func15, Try.ntmps15
  go_wp2_with fail
  rw [HW.out]
  (with_reducible refine HF.out.mono ?_)
  rintro e w1 ⟨rfl, rfl⟩
  go_wp2_with fail
  clear HF HW
  go_loopg [4] (1 + S.order.length) (fun kq v4 wr => ∃ (a d : List Nat) (z : Nat) (v : Value), v4 = .int .i64 (z : Int) ∧ d.length < kq ∧ Aside0 (d.headD 0 = z) ∧ Aside0 (S.order = a ++ d) ∧ Aside0 (wr.heap[w.heap.size]? = some (.cells #[.pointer (some ⟨g, 0, none⟩)] 23 (0, 0))) ∧ Aside0 (wr.heap[w.heap.size + 1]? = some (.cells #[v] 28 (0, 0))) ∧ Aside0 (Kd.R (Kd.int .i64) 3 wr w.heap.size (fun _ => True) v (a.map fun z : Nat => (z : Int))) ∧ Aside0 (Below w.heap.size w wr))
  case atStart => exact ⟨[], S.order, z0, _, rfl, by omega, HZ0, ⟨rfl⟩, HX0, HX1, ⟨Kd.R_nil _ _ _ _ _⟩, HB⟩
  case round =>
    clear HB HX0 HX1
    obtain ⟨a, d, z, v, rfl, hkq, HZ, HO, HX0, HX1, HR, HB⟩ := hrel
    cases gk with
    | zero => omega
    | succ gk1 =>
    cases d with
    | nil =>
      obtain rfl : 0 = z := HZ.out
      have HE := Aside0.mk (show ordI S = a.map (fun z : Nat => (z : Int)) by unfold ordI; rw [HO.out, List.append_nil])
      go_wp2
      go_ret
      exact ⟨_, rfl, ⟨HX0.out, HX1.out, by rw [HE.out]; exact HR.out⟩, HB.out⟩
    | cons z1 d2 =>
      obtain rfl : z1 = z := HZ.out
      have hzm := HS.out.1.mem z1 (by rw [HO.out]; simp)
      have hzb : z1 ≤ 1048576 := by have := HS.out.2.1; omega
      have b3 : ((z1 : Int) == 0) = false := by simp; omega
      have b4 : ((z1 : Int) != 0) = true := by simp; omega
      have hd2 : d2.length < gk1 := by simpa using hkq
      have HLN := Aside0.mk (show (a.map fun z : Nat => (z : Int)).length ≤ 1048576 by
        have h4 := HLO.out
        rw [HO.out, List.length_append] at h4
        rw [List.length_map]
        omega)
      have y0 := blk_cell HX0.out 0
      have y1 := blk_cell HX1.out 0
      clear hzm
      go_wp2_with (first | ((with_reducible refine gate_builtin (b := .append) (xs := #[.tmp 12, .tmp 14]) rfl ?_); at_builtin; refine Kd.R_append (Kd.int .i64) (w0 := w) w.heap.size rfl (.tmp 12) (.tmp 14) 28 3 (.int .i64 0) 8 rfl Try.underlying28 info3 rfl (by decide) (by omega) v (a.map (fun z : Nat => (z : Int))) ((z1 : Int)) [.int .i64 ((z1 : Int))] (fun _ => True) (fun _ => False) rfl rfl ?aP (fun _ hk => hk.elim) ?aF ?aO ?aB ?aS ?aL ?_; (case aP => exact rfl); (case aB => exact (by repeat (first | (with_reducible first | exact HB.out | apply below_alloc | apply pw_below_drewN | apply below_drew1) | exact HB.out))); (case aF => exact (fun _ _ => trivial)); (case aO => exact (by (with_reducible repeat (first | apply Kd.R_alloc | apply Kd.R_drewN | apply Kd.R_drew)); exact HR.out)); (case aS => exact (below_size (by repeat (first | (with_reducible first | exact HB.out | apply below_alloc | apply pw_below_drewN | apply below_drew1) | exact HB.out)))); (case aL => have := HLN.out; omega); intro vN wN ho hb hg hat; have HRN := Aside0.mk ho; have HBN := Aside0.mk hb; obtain ⟨gN, cN, hvN, _⟩ := Kd.R_form HRN.out (by simp); generalize (a.map (fun z : Nat => (z : Int)) ++ [(z1 : Int)]).length = nN at hvN; subst hvN; have HX0N := Aside0.mk ((hg.block _ (blk_lt HX0.out) (Kd.R_ne HR.out HX0.out (by decide))).trans HX0.out); have HX1N := Aside0.mk ((hg.block _ (blk_lt HX1.out) (Kd.R_ne HR.out HX1.out (by decide))).trans HX1.out); have t0 := (blk_cell HX0N.out 0).trans (show _ = some (.pointer (some ⟨g, 0, none⟩)) from rfl); have t1 := (blk_cell HX1N.out 0).trans (show _ = some v from rfl); have f1 := blk_frozen HX1N.out 0; clear HX0 HX1 y0 y1; clear HR HB ho hb hg hat))
      obtain ⟨w4, hw⟩ : ∃ w4, wN.setCell ⟨w.heap.size + 1, 0, none⟩ (.slice (some ⟨gN, 0, none⟩) nN cN) = w4 := ⟨_, rfl⟩
      rw [hw]
      have HX04 := Aside0.mk (show w4.heap[w.heap.size]? = some (.cells #[.pointer (some ⟨g, 0, none⟩)] 23 (0, 0)) by rw [← hw]; exact (Below.heap_setCell _ _ _ _ (by show w.heap.size ≠ w.heap.size + 1; omega)).trans HX0N.out)
      have HX14 := Aside0.mk (show w4.heap[w.heap.size + 1]? = some (.cells #[.slice (some ⟨gN, 0, none⟩) nN cN] 28 (0, 0)) by rw [← hw]; exact blk_set HX1N.out 0 _)
      have HR4 := Aside0.mk (show Kd.R (Kd.int .i64) 3 w4 w.heap.size (fun _ => True) (.slice (some ⟨gN, 0, none⟩) nN cN) (a.map (fun z : Nat => (z : Int)) ++ [(z1 : Int)]) by rw [← hw]; exact intR_move HRN.out (fun q hq => Below.heap_setCell _ _ _ _ (fun e => Kd.R_ne HRN.out HX1N.out (by decide) (by rw [hq]; exact congrArg some e.symm))))
      have HB4 := Aside0.mk (show Below w.heap.size w w4 by rw [← hw]; exact HBN.out.setCell (Nat.le_succ _) _)
      clear hw t0 t1 f1 HX0N HX1N HRN HBN
      (with_reducible refine (sk_next g base most S a d2 z1 _ (HSK.out _ HB4.out) HO.out).mono ?_)
      rintro e w5 ⟨rfl, rfl⟩
      go_wp2
      go_roundg gk1
      case measure => omega
      case rel => exact ⟨a ++ [z1], d2, _, _, rfl, hd2, ⟨by simp⟩, ⟨by rw [HO.out]; simp⟩, HX04, HX14, ⟨by rw [List.map_append]; exact HR4.out⟩, HB4⟩
/-- all that stood in a list stands in a later one -/
structure Ext (S T : SL Int) : Prop where
  len : S.nodes.length ≤ T.nodes.length
  key : ∀ z, 1 ≤ z → z ≤ S.nodes.length → T.key z = S.key z
theorem Ext.refl (S : SL Int) : Ext S S := ⟨Nat.le_refl _, fun _ _ _ => rfl⟩
theorem Ext.trans {S T U : SL Int} (h : Ext S T) (k : Ext T U) : Ext S U := ⟨Nat.le_trans h.len k.len, fun z h1 h2 => (k.key z h1 (Nat.le_trans h2 h.len)).trans (h.key z h1 h2)⟩
theorem Ext.ins (S : SL Int) (most : Nat) (k : IK) (v : Int) (hh : Int) : Ext S (insS S most k v hh) := by
  unfold insS
  split
  · exact ⟨by simp [SL.put], fun z h1 h2 => S.key_put k v _ h1 h2⟩
  · exact Ext.refl S
def elems (S : SL Int) : List (Nat × IK) := S.order.map fun z => (z, S.key z)
def encE (x : Nat × IK) : Array Value := #[.int .i64 (x.1 : Int), .agg #[.string x.2.1, .int .u64 x.2.2.1, .int .i64 x.2.2.2]]
theorem elems_len (S : SL Int) : (elems S).length = S.order.length := List.length_map _
theorem elems_at (S : SL Int) {i : Nat} (h : i < S.order.length) : (elems S).take (i + 1) = (elems S).take i ++ [(S.order[i], S.key S.order[i])] := by
  have h' : i < (elems S).length := by rw [elems_len]; exact h
  rw [List.take_add_one, List.getElem?_eq_getElem h']
  simp [elems]
/-- what a round of the iterator reads -/
def ReadAt (W : World) (n g base most : Nat) (v : Value) (S : SL Int) : Prop := AllAt W n g v (ordI S) ∧ ∃ T, SkAt W g base T most ∧ Ext S T
set_option maxHeartbeats 8000000 in
set_option maxRecDepth 100000 in
theorem all1_in (l n g base most : Nat) (v : Value) (S : SL Int) (hS : S.Fine ∧ S.nodes.length ≤ 1048576) (Kp : World → World → Prop) (hKt : ∀ {A B C : World}, Kp A B → Kp B C → Kp A C) (J Jx : List (Nat × IK) → World → Prop) (W : World) (hK0 : Kp W W)
    (hread : ∀ W', Kp W W' → ReadAt W' n g base most v S)
    (hY : ∀ pre x W1, J pre W1 → pre.length < (elems S).length → YieldAt Fence.wide 1 Try.prog l (encE x) W1 fun e W' =>
      (e = .returned (.bool true) ∧ J (pre ++ [x]) W' ∧ Kp W1 W') ∨ (e = .returned (.bool false) ∧ Jx (pre ++ [x]) W'))
    (h0 : J [] W) :
    CallsIn Fence.wide 2 Try.prog 45 #[.func (.yield l) #[] #[], .pointer (some ⟨n + 1, 0, none⟩), .pointer (some ⟨n, 0, none⟩)] W fun e W' => (∃ v, e = .returned v) ∧
      ((∃ ys, ys = elems S ∧ J ys W') ∨ (∃ pre, pre <+: elems S ∧ Jx pre W')) := by
  have HREAD := Aside0.mk hread
  have HY := Aside0.mk hY
  have HS := Aside0.mk hS
  have HKT := Aside0.mk @hKt
  have H0 := Aside0.mk h0
  have HK0 := Aside0.mk hK0
  obtain ⟨Ax, cx, hv, hcl, _⟩ := Kd.R_reads (hread W hK0).1.row
  have hq := blk_cell (hread W hK0).1.box 0
  have hol : (ordI S).length = S.order.length := List.length_map _
  rw [hol] at hv
  subst hv
  obtain ⟨m, hm⟩ : ∃ m, S.order.length = m := ⟨_, rfl⟩
  rw [hm] at hq
  have HM := Aside0.mk hm
  have hmb : m ≤ 1048576 := by rw [← hm, hS.1.len]; exact hS.2
  have hq0 : W.cell? ⟨n + 1, 0, none⟩ = some (.slice Ax m cx) := hq
  clear hread hY h0 hK0 hq hcl hol hm hS hKt
  refine callsIn_of_wp Try.func45 rfl trivial ?_ rfl
  simp only [Try.ntmps45, List.size_toArray, List.length_cons, List.length_nil, Nat.reduceAdd, Nat.reduceSub, Array.replicate_succ, Array.replicate_zero, List.push_toArray, List.append_toArray, List.nil_append, List.cons_append]
  gi_wp2_with fail
  gi_loopw [5, 8] (fun _ v8 wr => ∃ (i : Nat), v8 = .int .i64 (i : Int) ∧ i ≤ m ∧ Aside0 (J ((elems S).take i) wr) ∧ Aside0 (Kp W wr)) (fun _ v8 _ => m - (intOf v8).toNat)
  case atStart => exact ⟨0, rfl, by omega, ⟨by rw [List.take_zero]; exact H0.out⟩, HK0⟩
  case round =>
    clear H0 HK0 hq0
    obtain ⟨i, rfl, hi, HJ, HK⟩ := hrel
    by_cases hlt : i < m
    · have b1 : decide ((i : Int) < (m : Int)) = true := decide_eq_true (by omega)
      have hio : i < S.order.length := by rw [HM.out]; exact hlt
      obtain ⟨hA, T, hT, hE⟩ := HREAD.out wr HK.out
      obtain ⟨ob, oc, hob, _⟩ := Kd.R_form hA.row (by unfold ordI; rw [List.length_map]; omega)
      have hol : (ordI S).length = S.order.length := List.length_map _
      have hrow := hA.row
      injection hob with hob1 _ hob2
      subst hob1 hob2
      have r0 := (Kd.R_celln (0 : Int) hrow (i : Int) (by omega) (by rw [HM.out]; omega)).1
      have hrd : rdOf (0 : Int) (ordI S) (i : Int) = ((S.order[i] : Nat) : Int) := by
        unfold rdOf ordI
        simp [hio]
      rw [hrd, Int.toNat_natCast] at r0
      have hsn := elems_at S hio
      have hzm := HS.out.1.mem _ (List.getElem_mem hio)
      have hkey := hE.key _ hzm.1 hzm.2
      have hel := hE.len
      obtain ⟨z, hz⟩ : ∃ z, S.order[i] = z := ⟨_, rfl⟩
      rw [hz] at r0 hsn hzm hkey
      rw [← hkey] at hsn
      have hTl := hT.fine.2.1
      obtain ⟨b, c, ns, t1, _, _, t4, _⟩ := hT.reads
      obtain ⟨k0, k1, k2, _⟩ := t4 z hzm.1 (by omega)
      have q0 : wr.cell? ⟨g, 0, none⟩ = some (.slice (some ⟨b, 0, none⟩) (T.nodes.length + 1) c) := (blk_cell t1 0).trans rfl
      have p0 := blk_cell hA.lst 0
      obtain ⟨N, hN⟩ : ∃ N, T.nodes.length + 1 = N := ⟨_, rfl⟩
      rw [hN] at q0
      have hzN : z < N := by omega
      have hNb : N ≤ 1048577 := by omega
      obtain ⟨⟨ks, kn, kd⟩, hkk⟩ : ∃ kk, T.key z = kk := ⟨_, rfl⟩
      rw [hkk] at hsn k0 k1 k2
      have HSN := Aside0.mk hsn
      have hpl : ((elems S).take i).length < (elems S).length := by rw [List.length_take, elems_len]; omega
      obtain ⟨fn, tmps, assign, body, hy, hR2⟩ := HY.out ((elems S).take i) (z, ks, kn, kd) wr HJ.out hpl
      simp only [encE] at hy
      have ew : wrap64 ((i : Int) + 1) = ((i + 1 : Nat) : Int) := by unfold wrap64; omega
      have HEW := Aside0.mk ew
      clear hA hT hE hol hrow hrd hsn hzm hkey hel hz hTl t1 t4 hN hkk hpl ew
      gi_wp2
      refine hR2.mono ?_
      rintro e W3 (⟨rfl, hJ4, hk4⟩ | ⟨rfl, hJx4⟩)
      · have HJ4 := Aside0.mk hJ4
        have HK4 := Aside0.mk (HKT.out HK.out hk4)
        have hi1 : (i : Int) + 1 ≤ 1048576 := by omega
        clear hJ4 hk4 hR2 hy
        gi_wp2
        go_roundw
        case rel => exact ⟨i + 1, by go_num, by omega, ⟨by rw [HSN.out]; exact HJ4.out⟩, HK4⟩
        case measure => simp only [intOf]; omega
      · have HL4 := Aside0.mk (show ((elems S).take i ++ [(z, ks, kn, kd)]) <+: elems S by rw [← HSN.out]; exact List.take_prefix _ _)
        have HJX := Aside0.mk hJx4
        clear hJx4
        gi_wp2
        refine bodyPost_ret (results_none rfl _ _ _) rfl ?_
        exact ⟨⟨_, rfl⟩, .inr ⟨_, HL4.out, HJX.out⟩⟩
    · obtain rfl : i = m := by omega
      have b1 : decide ((i : Int) < (i : Int)) = false := decide_eq_false (by omega)
      have HJ3 := Aside0.mk (show J (elems S) wr by have := HJ.out; rwa [List.take_of_length_le (by rw [elems_len, HM.out]; exact Nat.le_refl _)] at this)
      clear HJ
      gi_wp2
      go_end0
      exact ⟨⟨_, rfl⟩, .inl ⟨_, rfl, HJ3.out⟩⟩

end Go.Proofs.Ytehfcafmdnfamaa.G

/- Printed by the session's program over the kit's print, out of the translation: functions as plain Lean functions, and the proofs that the calls come to them. -/
namespace Go.Proofs.Ytehfcafmdnfamaa.G
open Go.RowKit Go.Proofs.YtehfcafmdnfamaaW.PrintWords Go.Proofs.YtehfcafmdnfamaaW.PrintLast Go.Proofs.YtehfcafmdnfamaaW.PrintMore
attribute [local go_sem] max2_int min2_int max_two min_two max_three min_three max_four min_four   -- for this text's walks alone
set_option linter.unusedVariables false
set_option linter.unusedSimpArgs false

/-! ### morainelaw08_key: function 46 -/
def morainelaw08_key.f (a0 : ByteArray) (a1 : Int) : Option (ByteArray × Int × Int) := some (a0, a1, 1)
set_option maxHeartbeats 8000000 in
set_option maxRecDepth 100000 in
theorem morainelaw08_key.calls (a0 : ByteArray) (a1 : Int) (r1 : ByteArray) (r2 : Int) (r3 : Int) (w : World) (h : morainelaw08_key.f a0 a1 = some (r1, r2, r3)) :
    Calls Try.prog 46 #[.string a0, .int .u64 a1] w fun e w' => e = .returned (.agg #[.string r1, .int .u64 r2, .int .i64 r3]) ∧ Below w.heap.size w w' := by
  have hu37 := Try.underlying37
  have HB := Aside0.mk (Below.refl w.heap.size w)
  have H : (some (a0, a1, 1)) = some (r1, r2, r3) := h
  clear h
  simp only [Option.some.injEq, Prod.mk.injEq] at H
  obtain ⟨rfl, rfl, rfl⟩ := H
  go_enter Try.func46, Try.ntmps46
  go_wp2_with (first | ((with_reducible refine gate_dst (N := 4) rfl ?_); refine box_event ?hg (N := 4) ?hd (cs := #[.string (⟨#[]⟩ : ByteArray), .int .u64 0, .int .i64 0]) (t := 37) ?hr ?_; (case hd => rfl); (case hg => rfl); (case hr => first | (go_simp; done) | (go_simp; rfl)); intro gb119 hg w3 hbox hb; have n0_ := Aside0.mk (below_step (by repeat (first | (with_reducible first | exact HB.out | apply below_alloc | apply pw_below_drewN | apply below_drew1) | exact HB.out)) hb); have n1_ := Aside0.mk (hbox); have n2_ := Aside0.mk ((by rw [hg]; exact (below_size (by repeat (first | (with_reducible first | exact HB.out | apply below_alloc | apply pw_below_drewN | apply below_drew1) | exact HB.out))) : w.heap.size ≤ gb119)); have n3_ := Aside0.mk ((by rw [hg]; exact (below_size (by repeat (first | (with_reducible first | exact HB.out | apply below_alloc | apply pw_below_drewN | apply below_drew1) | exact HB.out))) : w.heap.size ≤ gb119)); clear HB; have HB := n0_; have BK119 := n1_; have GW119 := n2_; have GE119 := n3_; clear n0_ n1_ n2_ n3_; clear hb hbox hg; have hcz4_0 : w3.cell? ⟨gb119, 0, none⟩ = some (.string (⟨#[]⟩ : ByteArray)) := (blk_cell BK119.out 0).trans rfl; have hcz4_1 : w3.cell? ⟨gb119, 1, none⟩ = some (.int .u64 0) := (blk_cell BK119.out 1).trans rfl; have hcz4_2 : w3.cell? ⟨gb119, 2, none⟩ = some (.int .i64 0) := (blk_cell BK119.out 2).trans rfl; have hfz4_0 := blk_frozen BK119.out 0; have hfz4_1 := blk_frozen BK119.out 1; have hfz4_2 := blk_frozen BK119.out 2))
  refine bodyPost_ret (results_cell_row rfl _ _ gb119 37 #[.string a0, .int .u64 a1, .int .i64 1] (0, 0) _ rfl (by (with_reducible repeat (first | refine blk_drewN ?_ _ | refine blk_drew ?_ | refine blk_alloc ?_ _)); refine blk_put (cs := #[.string a0, .int .u64 a1, .int .i64 0]) ?_ 2 _ rfl; (with_reducible repeat (first | refine blk_drewN ?_ _ | refine blk_drew ?_ | refine blk_alloc ?_ _)); refine blk_put (cs := #[.string a0, .int .u64 0, .int .i64 0]) ?_ 1 _ rfl; (with_reducible repeat (first | refine blk_drewN ?_ _ | refine blk_drew ?_ | refine blk_alloc ?_ _)); refine blk_put (cs := #[.string (⟨#[]⟩ : ByteArray), .int .u64 0, .int .i64 0]) ?_ 0 _ rfl; (with_reducible repeat (first | refine blk_drewN ?_ _ | refine blk_drew ?_ | refine blk_alloc ?_ _)); exact BK119.out) Try.underlying37 rfl (by kernel_rfl)) rfl ?_
  exact ⟨by first | rfl | (simp [errW_none, errW_some] <;> rfl) | (simp [*, errW_none, errW_some] <;> rfl), by repeat (first | (with_reducible first | exact HB.out | apply below_alloc | apply pw_below_drewN | apply below_drew1 | refine below_set ?_ GE119.out) | exact HB.out)⟩

end Go.Proofs.Ytehfcafmdnfamaa.G

/- Printed by the session's program over the kit's print, out of the translation: functions as plain Lean functions, and the proofs that the calls come to them. -/
namespace Go.Proofs.Ytehfcafmdnfamaa.G
open Go.RowKit Go.Proofs.YtehfcafmdnfamaaW.PrintWords Go.Proofs.YtehfcafmdnfamaaW.PrintLast Go.Proofs.YtehfcafmdnfamaaW.PrintMore
attribute [local go_sem] max2_int min2_int max_two min_two max_three min_three max_four min_four   -- for this text's walks alone
set_option linter.unusedVariables false
set_option linter.unusedSimpArgs false

/-! ### morainelaw08_among: function 30 -/
def morainelaw08_among.f (a0 : Int) (a1 : Int) : Option (Int) := if a1 = 0 then (none) else (some (Int.tmod (wrap64 ((Int.tmod a0 a1) + a1)) a1))
set_option maxHeartbeats 8000000 in
set_option maxRecDepth 100000 in
theorem morainelaw08_among.calls (a0 : Int) (a1 : Int) (r : Int) (w : World) (h : morainelaw08_among.f a0 a1 = some r) :
    Calls Try.prog 30 #[.int .i64 a0, .int .i64 a1] w fun e w' => e = .returned (.int .i64 r) ∧ Drawn0 w w' := by
  have H : (if a1 = 0 then (none) else (some (Int.tmod (wrap64 ((Int.tmod a0 a1) + a1)) a1))) = some r := h
  clear h
  by_cases c3 : a1 = 0
  · rw [if_pos c3] at H
    exact absurd H (by simp)
  · rw [if_neg c3] at H
    have c3b0 : (a1 == 0) = false := beq_eq_false_iff_ne.mpr c3
    have c3b1 : (a1 != 0) = true := bne_iff_ne.mpr c3
    obtain rfl := Option.some.inj H
    go_enter Try.func30, Try.ntmps30
    go_wp2
    go_ret
    exact ⟨by first | rfl | (simp; done) | (simp [*]; done), by repeat (first | exact Drawn0.refl _ | apply Drawn0.step)⟩

end Go.Proofs.Ytehfcafmdnfamaa.G

/- Printed by the session's program over the kit's print, out of the translation: functions as plain Lean functions, and the proofs that the calls come to them. -/
namespace Go.Proofs.Ytehfcafmdnfamaa.G
open Go.RowKit Go.Proofs.YtehfcafmdnfamaaW.PrintWords Go.Proofs.YtehfcafmdnfamaaW.PrintLast Go.Proofs.YtehfcafmdnfamaaW.PrintMore
attribute [local go_sem] max2_int min2_int max_two min_two max_three min_three max_four min_four   -- for this text's walks alone
set_option linter.unusedVariables false
set_option linter.unusedSimpArgs false

/-! ### morainelaw08_ints: function 20 -/
def morainelaw08_ints.l0 : Nat → List Int → List Int → Int → Option (Bool)
  | 0, _, _, _ => none
  | k + 1, x0, x1, x5 => if x5 < (x0.length : Int) then (if 0 ≤ x5 then (if x5 < (x1.length : Int) then (if (rd x0 x5) = (rd x1 x5) then (morainelaw08_ints.l0 k x0 x1 (wrap64 (x5 + 1))) else (some false)) else (none)) else (none)) else (some true)
def morainelaw08_ints.f (k : Nat) (l0 : List Int) (l1 : List Int) : Option (Bool) := if (l0.length : Int) = (l1.length : Int) then (morainelaw08_ints.l0 k l0 l1 0) else (some false)
theorem morainelaw08_ints.mono_l : ∀ k, (∀ y0 y1 y2, LeO (morainelaw08_ints.l0 k y0 y1 y2) (morainelaw08_ints.l0 (k + 1) y0 y1 y2))
  | 0 => fun _ _ _ r h => by simp [morainelaw08_ints.l0] at h
  | k + 1 => by
    have ih0 := morainelaw08_ints.mono_l k
    · intro y0 y1 y2
      unfold morainelaw08_ints.l0
      repeat' first
      | (with_reducible exact ih0 _ _ _)
      | (with_reducible exact LeO.refl _)
      | (with_reducible exact LeO.none _)
      | (with_reducible refine LeO.ite ?_ ?_)
      | (with_reducible refine LeO.bind ?_ (fun _ => ?_))
      | exact ih0 _ _ _
      | exact LeO.none _
      | refine LeO.ite ?_ ?_
      | refine LeO.bind ?_ (fun _ => ?_)
theorem morainelaw08_ints.mono : ∀ a0 a1 k, LeO (morainelaw08_ints.f k a0 a1) (morainelaw08_ints.f (k + 1) a0 a1) := by
  intro a0 a1 k
  have ih0 := morainelaw08_ints.mono_l k
  unfold morainelaw08_ints.f
  repeat' first
      | (with_reducible exact ih0 _ _ _)
      | (with_reducible exact LeO.refl _)
      | (with_reducible exact LeO.none _)
      | (with_reducible refine LeO.ite ?_ ?_)
      | (with_reducible refine LeO.bind ?_ (fun _ => ?_))
      | exact ih0 _ _ _
      | exact LeO.none _
      | refine LeO.ite ?_ ?_
      | refine LeO.bind ?_ (fun _ => ?_)
set_option maxHeartbeats 8000000 in
set_option maxRecDepth 100000 in
theorem morainelaw08_ints.calls (k : Nat) (A0 : Option Addr) (c0 : Nat) (l0 : List Int) (A1 : Option Addr) (c1 : Nat) (l1 : List Int) (r : Bool) (w : World) (hr0 : Kd.C (Kd.int .i64) w A0 l0.length l0) (hc0 : l0.length ≤ c0) (hr1 : Kd.C (Kd.int .i64) w A1 l1.length l1) (hc1 : l1.length ≤ c1) (h : morainelaw08_ints.f k l0 l1 = some r) :
    Calls Try.prog 20 #[.slice A0 l0.length c0, .slice A1 l1.length c1] w fun e w' => e = .returned (.bool r) ∧ Drawn0 w w' := by
  have HR0 := Aside0.mk hr0
  have HC0 := Aside0.mk hc0
  clear hr0 hc0
  have HR1 := Aside0.mk hr1
  have HC1 := Aside0.mk hc1
  clear hr1 hc1
  have H : (if (l0.length : Int) = (l1.length : Int) then (morainelaw08_ints.l0 k l0 l1 0) else (some false)) = some r := h
  clear h
  by_cases c3 : (l0.length : Int) = (l1.length : Int)
  · rw [if_pos c3] at H
    have c3b0 : ((l0.length : Int) == (l1.length : Int)) = true := beq_iff_eq.mpr c3
    have c3b1 : ((l0.length : Int) != (l1.length : Int)) = false := bne_eq_false_iff_eq.mpr c3
    have c3b2 : (l0.length == l1.length) = true := by first | simpa using c3 | (simp at c3 ⊢; omega)
    clear c3
    have H' := Aside0.mk H
    clear H
    go_enter Try.func20, Try.ntmps20
    go_wp2
    repeat (go_quiet (fail); try go_wp2)
    go_loopg [5] k (fun kq v5 w' => ∃ (x5_1 : Int), v5 = .int .i64 x5_1 ∧ Aside0 (morainelaw08_ints.l0 kq l0 l1 x5_1 = some r) ∧ Aside0 (kq ≤ k) ∧ Drawn0 w w')
    case atStart => exact ⟨(0), (by first | rfl | (simp; done) | (simp [*]; done)), H', ⟨Nat.le_refl _⟩, by repeat (first | exact Drawn0.refl _ | apply Drawn0.step)⟩
    case round =>
      clear H'
      try clear c1
      try clear c2
      try clear p2
      try clear c3
      try clear c3b0
      try clear c3b1
      try clear c3b2
      obtain ⟨x5_1, rfl, HA, HK1, ⟨m1, rfl⟩⟩ := hrel
      cases gk with
      | zero => exact absurd HA.out (by simp [morainelaw08_ints.l0])
      | succ k1 =>
        have H := HA.out
        clear HA
        simp only [morainelaw08_ints.l0] at H
        by_cases c4 : x5_1 < (l0.length : Int)
        · rw [if_pos c4] at H
          have c4b0 : decide (x5_1 < (l0.length : Int)) = true := decide_eq_true c4
          clear c4
          by_cases c5 : 0 ≤ x5_1
          · rw [if_pos c5] at H
            have c5b0 : decide (0 ≤ x5_1) = true := decide_eq_true c5
            clear c5
            by_cases c6 : x5_1 < (l1.length : Int)
            · rw [if_pos c6] at H
              have c6b0 : decide (x5_1 < (l1.length : Int)) = true := decide_eq_true c6
              clear c6
              by_cases c7 : (rd l0 x5_1) = (rd l1 x5_1)
              · rw [if_pos c7] at H
                have c7b0 : ((rd l0 x5_1) == (rd l1 x5_1)) = true := beq_iff_eq.mpr c7
                have c7b1 : ((rd l0 x5_1) != (rd l1 x5_1)) = false := bne_eq_false_iff_eq.mpr c7
                clear c7
                have H' := Aside0.mk H
                clear H
                have p117 : 0 ≤ (x5_1 : Int) := of_decide_eq_true (by first | (with_reducible assumption) | assumption)
                have q117 : x5_1 < (l0.length : Int) := of_decide_eq_true (by first | (with_reducible assumption) | assumption)
                obtain ⟨ad117, e117, hx117_0⟩ := Kd.at_int HR0.out x5_1 p117 q117
                cases e117
                replace p117 := eq_true p117
                replace q117 := eq_true q117
                have p118 : 0 ≤ (x5_1 : Int) := of_decide_eq_true (by first | (with_reducible assumption) | assumption)
                have q118 : x5_1 < (l1.length : Int) := of_decide_eq_true (by first | (with_reducible assumption) | assumption)
                obtain ⟨ad118, e118, hx118_0⟩ := Kd.at_int HR1.out x5_1 p118 q118
                cases e118
                replace p118 := eq_true p118
                replace q118 := eq_true q118
                go_wp2
                repeat (go_quiet (fail); try go_wp2)
                go_roundg k1
                case measure => have := HK1.out; omega
                case rel => exact ⟨(wrap64 (x5_1 + 1)), (by first | rfl | (simp; done) | (simp [*]; done)), H', ⟨by have := HK1.out; omega⟩, by repeat (first | exact Drawn0.refl _ | apply Drawn0.step)⟩
              · rw [if_neg c7] at H
                have c7b0 : ((rd l0 x5_1) == (rd l1 x5_1)) = false := beq_eq_false_iff_ne.mpr c7
                have c7b1 : ((rd l0 x5_1) != (rd l1 x5_1)) = true := bne_iff_ne.mpr c7
                obtain rfl := Option.some.inj H
                have p117 : 0 ≤ (x5_1 : Int) := of_decide_eq_true (by first | (with_reducible assumption) | assumption)
                have q117 : x5_1 < (l0.length : Int) := of_decide_eq_true (by first | (with_reducible assumption) | assumption)
                obtain ⟨ad117, e117, hx117_0⟩ := Kd.at_int HR0.out x5_1 p117 q117
                cases e117
                replace p117 := eq_true p117
                replace q117 := eq_true q117
                have p118 : 0 ≤ (x5_1 : Int) := of_decide_eq_true (by first | (with_reducible assumption) | assumption)
                have q118 : x5_1 < (l1.length : Int) := of_decide_eq_true (by first | (with_reducible assumption) | assumption)
                obtain ⟨ad118, e118, hx118_0⟩ := Kd.at_int HR1.out x5_1 p118 q118
                cases e118
                replace p118 := eq_true p118
                replace q118 := eq_true q118
                go_wp2
                repeat (go_quiet (fail); try go_wp2)
                go_ret
                exact ⟨by first | rfl | (simp; done) | (simp [*]; done), by repeat (first | exact Drawn0.refl _ | apply Drawn0.step)⟩
            · rw [if_neg c6] at H
              exact absurd H (by simp)
          · rw [if_neg c5] at H
            exact absurd H (by simp)
        · rw [if_neg c4] at H
          have c4b0 : decide (x5_1 < (l0.length : Int)) = false := decide_eq_false c4
          clear c4
          obtain rfl := Option.some.inj H
          go_wp2
          repeat (go_quiet (fail); try go_wp2)
          go_ret
          exact ⟨by first | rfl | (simp; done) | (simp [*]; done), by repeat (first | exact Drawn0.refl _ | apply Drawn0.step)⟩
  · rw [if_neg c3] at H
    have c3b0 : ((l0.length : Int) == (l1.length : Int)) = false := beq_eq_false_iff_ne.mpr c3
    have c3b1 : ((l0.length : Int) != (l1.length : Int)) = true := bne_iff_ne.mpr c3
    have c3b2 : (l0.length == l1.length) = false := by first | simpa using c3 | (simp at c3 ⊢; omega)
    obtain rfl := Option.some.inj H
    go_enter Try.func20, Try.ntmps20
    go_wp2
    repeat (go_quiet (fail); try go_wp2)
    go_ret
    exact ⟨by first | rfl | (simp; done) | (simp [*]; done), by repeat (first | exact Drawn0.refl _ | apply Drawn0.step)⟩

end Go.Proofs.Ytehfcafmdnfamaa.G

/- Contracts typed by hand: a skiplist in memory: lists made of puts -/
namespace Go.Proofs.Ytehfcafmdnfamaa.G
open Go.RowKit Go.Proofs.YtehfcafmdnfamaaW.PrintWords Go.Proofs.YtehfcafmdnfamaaW.PrintLast Go.Proofs.YtehfcafmdnfamaaW.PrintMore
attribute [local go_sem] max2_int min2_int max_two min_two max_three min_three max_four min_four
set_option linter.unusedVariables false
set_option linter.unusedSimpArgs false

/-! a skiplist in memory: lists made of puts -/
abbrev PutK := Kd.pair k37 (Kd.int .i64)
abbrev Put08 := S37 × Int
def ikOf (x : S37) : IK := (x.f0, x.f1, x.f2)
def putsOf (l : List Put08) : List (IK × Int) := l.map fun p => (ikOf p.1, p.2)
def zPut : Put08 := (z37, 0)
theorem put_open {w : World} {x : Put08} {cs : List Value} (h : PutK.K w x cs) : cs = [.string x.1.f0, .int .u64 x.1.f1, .int .i64 x.1.f2, .int .i64 x.2] := by
  obtain ⟨d1, d2, e2, h1, h2⟩ := h
  obtain rfl := k37_open h1
  have e5 : d2 = [.int .i64 x.2] := h2
  subst e5
  simpa using e2
theorem at_put {w : World} {A : Option Addr} {n : Nat} {xs : List Put08} (h : Kd.C PutK w A n xs) (i : Nat) (h1 : i < n) : ∃ ad x, A = some ad ∧ xs[i]? = some x ∧ w.cell? (ad.add (i * 4)) = some (.string x.1.f0) ∧ w.cell? ⟨(ad.add (i * 4)).block, (ad.add (i * 4)).off + 1, none⟩ = some (.int .u64 x.1.f1) ∧ w.cell? ⟨(ad.add (i * 4)).block, (ad.add (i * 4)).off + 2, none⟩ = some (.int .i64 x.1.f2) ∧ w.cell? ⟨(ad.add (i * 4)).block, (ad.add (i * 4)).off + 3, none⟩ = some (.int .i64 x.2) := by
  obtain ⟨ad, c, e, _, hK, hc0⟩ := Kd.C_get h zPut (i : Int) (by omega) (by omega)
  rw [Int.toNat_natCast] at hK hc0
  have hc : ∀ j u, c[j]? = some u → w.cell? (ad.add (i * 4 + j)) = some u := hc0
  obtain rfl := put_open hK
  have hl : i < xs.length := by have := h.1; omega
  refine ⟨ad, xs.getD i zPut, e, ?_, hc 0 _ rfl, by rw [← add_field _ _ 1 (by omega)]; exact hc 1 _ rfl, by rw [← add_field _ _ 2 (by omega)]; exact hc 2 _ rfl, by rw [← add_field _ _ 3 (by omega)]; exact hc 3 _ rfl⟩
  rw [List.getD_eq_getElem?_getD, List.getElem?_eq_getElem hl]; rfl
/-- a list stays where a row of numbers grows -/
theorem SkAt.own {w w' : World} {g base most b2 : Nat} {S : SL Int} {v : Value} {l : List Int} (h : SkAt w g base S most) (hr : Kd.R (Kd.int .i64) 3 w b2 (fun _ => True) v l) (hg : w.grownBy w' v.ownBlock) : SkAt w' g base S most := by
  obtain ⟨b, c, ns, h1, h2, h3⟩ := h
  have e1 := Kd.R_ne hr h1 (by decide)
  refine ⟨b, c, ns, (hg.block g (blk_lt h1) e1).trans h1, ndR_move h2 fun q hq => ?_, h3⟩
  have : b = q := by simpa [Value.ownBlock] using hq
  subst this
  obtain ⟨inner, hown⟩ := Kd.R_own h2
  obtain ⟨cs, hc⟩ := own_typed hown b rfl
  exact hg.block b (blk_lt hc) (Kd.R_ne hr hc (by decide))
/-- a number from 0 to 11 -/
def amg (a : Int) : Int := Int.tmod (wrap64 (Int.tmod a 12 + 12)) 12
theorem amg_eq (a : Int) : morainelaw08_among.f a 12 = some (amg a) := if_neg (by decide)
theorem amg_range (a : Int) : 0 ≤ amg a ∧ amg a ≤ 11 := by
  unfold amg
  have h1 : -12 < Int.tmod a 12 := Int.lt_tmod_of_pos a (by decide)
  have h2 : Int.tmod a 12 < 12 := Int.tmod_lt_of_pos a (by decide)
  generalize Int.tmod a 12 = x at h1 h2 ⊢
  have e : wrap64 (x + 12) = x + 12 := by unfold wrap64; omega
  rw [e]
  have h3 : 0 ≤ Int.tmod (x + 12) 12 := Int.tmod_nonneg _ (by omega)
  have h4 : Int.tmod (x + 12) 12 < 12 := Int.tmod_lt_of_pos _ (by decide)
  omega
def hgt (more x : Int) : Nat := (amg (wrap64 (x + more))).toNat + 1
theorem hgt_range (more x : Int) : 1 ≤ hgt more x ∧ hgt more x ≤ 12 := by
  have := amg_range (wrap64 (x + more))
  unfold hgt
  omega
theorem hgt_wrap (more x : Int) : wrap64 (1 + amg (wrap64 (x + more))) = (hgt more x : Int) := by
  have := amg_range (wrap64 (x + more))
  unfold hgt
  generalize amg (wrap64 (x + more)) = a at this ⊢
  unfold wrap64
  omega
def madeL (more : Int) (l : List Put08) : SL Int × List Int := madeS (hgt more) (putsOf l) 0 SL.nil []
theorem madeS_step (hf : Int → Nat) (l : List Put08) (i : Nat) (x : Put08) (hx : l[i]? = some x) (S : SL Int) (t : List Int) :
    madeS hf (putsOf (l.drop i)) i S t = if insC S 1048576 (ikOf x.1) (hf x.2 : Int) = 0 then madeS hf (putsOf (l.drop (i + 1))) (i + 1) (S.put (ikOf x.1) (i : Int) (hf x.2)) (t ++ [(i : Int)]) else madeS hf (putsOf (l.drop (i + 1))) (i + 1) S t := by
  obtain ⟨hl, rfl⟩ := List.getElem?_eq_some_iff.1 hx
  rw [List.drop_eq_getElem_cons hl]
  rfl
set_option maxHeartbeats 8000000 in
set_option maxRecDepth 100000 in
theorem made_calls (A : Option Addr) (c : Nat) (l : List Put08) (more : Int) (w : World) (hr : Kd.C PutK w A l.length l) (hc : l.length ≤ c) (hlen : l.length ≤ 1048576) :
    Calls Try.prog 17 #[.slice A l.length c, .int .i64 more] w fun e w' => ∃ g v, e = .returned (.tuple #[.pointer (some ⟨g, 0, none⟩), v]) ∧ SkAt w' g w.heap.size (madeL more l).1 1048576 ∧ Kd.R (Kd.int .i64) 3 w' w.heap.size (fun _ => True) v (madeL more l).2 ∧ Below w.heap.size w w' := by
  have HR0 := Aside0.mk hr
  have HC0 := Aside0.mk hc
  obtain ⟨m, hm⟩ : ∃ m, l.length = m := ⟨_, rfl⟩
  have HM := Aside0.mk hm
  rw [hm] at hlen
  rw [hm]
  clear hr hc hm
  go_enter Try.func17, Try.ntmps17
  have HNW := Aside0.mk (sk_new 1048576 w (by decide) (by decide))
  rw [show ((1048576 : Nat) : Int) = 1048576 from rfl] at HNW
  go_wp2_with fail
  (with_reducible refine HNW.out.mono ?_)
  rintro e w1 ⟨g, rfl, hsk, hb⟩
  have HSK := Aside0.mk hsk
  have HB := Aside0.mk hb
  clear hsk hb
  go_wp2_with fail
  go_loopg [8, 9] (1 + m) (fun kq v8 v9 wr => ∃ (i : Nat) (S : SL Int) (t : List Int), v9 = .int .i64 (i : Int) ∧ i ≤ m ∧ m - i < kq ∧ t.length ≤ i ∧ Aside0 (Made S t) ∧ Aside0 (madeS (hgt more) (putsOf (l.drop i)) i S t = madeL more l) ∧ Aside0 (SkAt wr g w.heap.size S 1048576) ∧ Aside0 (Kd.R (Kd.int .i64) 3 wr w.heap.size (fun _ => True) v8 t) ∧ Aside0 (Below w.heap.size w wr))
  case atStart => exact ⟨0, SL.nil, [], rfl, Nat.zero_le _, by omega, Nat.le_refl _, ⟨made_nil⟩, ⟨rfl⟩, HSK, ⟨Kd.R_nil _ _ _ _ _⟩, HB⟩
  case round =>
    clear HSK HB
    obtain ⟨i, S, t, rfl, him, hkq, htl, HMD, HMS, HSK, HR, HB⟩ := hrel
    cases gk with
    | zero => omega
    | succ gk1 =>
    by_cases hi : i < m
    · have b1 : decide ((i : Int) < (m : Int)) = true := decide_eq_true (by omega)
      have b1n : decide (i < m) = true := decide_eq_true hi
      obtain ⟨ad, x, hA, hx, c0, c1, c2, c3⟩ := at_put HR0.out i (by rw [HM.out]; exact hi)
      subst hA
      have hms := madeS_step (hgt more) l i x hx S t
      rw [HMS.out] at hms
      have HMS2 := Aside0.mk hms
      obtain ⟨⟨ks, kn, kd⟩, xh⟩ := x
      have HAM := Aside0.mk (amg_eq (wrap64 (xh + more)))
      have HIN := Aside0.mk (show ∀ W, SkAt W g w.heap.size S 1048576 → Calls Try.prog 13 #[.pointer (some ⟨g, 0, none⟩), .agg #[.string ks, .int .u64 kn, .int .i64 kd], .int .i64 (i : Int), .int .i64 (wrap64 (1 + amg (wrap64 (xh + more))))] W fun e w' => e = .returned (.int .i64 (insC S 1048576 (ks, kn, kd) (hgt more xh : Int))) ∧ SkAt w' g w.heap.size (insS S 1048576 (ks, kn, kd) (i : Int) (hgt more xh : Int)) 1048576 ∧ Below w.heap.size W w' ∧ Kept W w' (Turns W g w.heap.size) from fun W h => by
        rw [hgt_wrap]
        exact sk_insert g w.heap.size 1048576 S (ks, kn, kd) (i : Int) (hgt more xh : Int) W h)
      obtain ⟨am, ham⟩ : ∃ am, amg (wrap64 (xh + more)) = am := ⟨_, rfl⟩
      rw [ham] at HAM HIN
      obtain ⟨H, hH⟩ : ∃ H, hgt more xh = H := ⟨_, rfl⟩
      have hH' : hgt more (({ f0 := ks, f1 := kn, f2 := kd } : S37), xh).2 = H := hH
      rw [hH] at HIN
      rw [hH'] at HMS2
      have hms2 := HMS2.out
      rw [show ikOf (({ f0 := ks, f1 := kn, f2 := kd } : S37), xh).1 = (ks, kn, kd) from rfl] at hms2
      have HMS3 := Aside0.mk hms2
      clear HMS2
      obtain ⟨ic, hic⟩ : ∃ ic, insC S 1048576 (ks, kn, kd) (H : Int) = ic := ⟨_, rfl⟩
      obtain ⟨S2, hS2⟩ : ∃ S2, insS S 1048576 (ks, kn, kd) (i : Int) (H : Int) = S2 := ⟨_, rfl⟩
      rw [hic, hS2] at HIN
      have HIC := Aside0.mk hic
      have HS2 := Aside0.mk hS2
      have l0 := World.block_lt_of_cell? w _ c0
      have HQ := Aside0.mk (fun (W : World) (hb : Below w.heap.size w W) => (⟨(hb.cell l0).trans c0, (hb.cell (World.block_lt_of_cell? w _ c1)).trans c1, (hb.cell (World.block_lt_of_cell? w _ c2)).trans c2, (hb.cell (World.block_lt_of_cell? w _ c3)).trans c3⟩ : W.cell? (ad.add (i * 4)) = some (.string ks) ∧ W.cell? ⟨(ad.add (i * 4)).block, (ad.add (i * 4)).off + 1, none⟩ = some (.int .u64 kn) ∧ W.cell? ⟨(ad.add (i * 4)).block, (ad.add (i * 4)).off + 2, none⟩ = some (.int .i64 kd) ∧ W.cell? ⟨(ad.add (i * 4)).block, (ad.add (i * 4)).off + 3, none⟩ = some (.int .i64 xh)))
      obtain ⟨f0, f1, f2, f3⟩ := HQ.out wr HB.out
      have him2 : (i : Int) ≤ 1048576 := by omega
      clear c0 c1 c2 c3 hx hms hms2 ham hH hH' hic hS2 l0
      have HX := Aside0.mk HMS3.out
      go_wp2_with fail
      refine start_ (n := 22) (S := fun w' => w'.cell? (ad.add (i * 4)) = some (.string ks) ∧ w'.cell? ⟨(ad.add (i * 4)).block, (ad.add (i * 4)).off + 1, none⟩ = some (.int .u64 kn) ∧ w'.cell? ⟨(ad.add (i * 4)).block, (ad.add (i * 4)).off + 2, none⟩ = some (.int .i64 kd) ∧ w'.cell? ⟨(ad.add (i * 4)).block, (ad.add (i * 4)).off + 3, none⟩ = some (.int .i64 xh)) (ds := []) #[false, false, false, false, false, false, false, false, false, false, false, false, false, false, false, false, false, false, false, false, false, false] (by kernel_rfl) rfl rfl ⟨f0, f1, f2, f3⟩ (fun hHeld => ?_)
      refine pure_ (i := 0) (N := some 20) (v := ?_) (a' := ?_) #[true, false, false, false, false, false, false, false, false, false, false, false, false, false, false, false, false, false, false, false, false, false] rfl rfl (by kernel_rfl) (fun _ _ _ h => h) (Or.inl ⟨by rfl, ?_⟩) ?_ ?_
      rotate_left
      · intro w'
        go_simp
        with_reducible rfl
      rotate_left
      · simp only [Act.put, List.setIfInBounds_toArray, List.set_cons_zero, List.set_cons_succ, i64_w, i32_w]
        rfl
      refine pure_ (i := 1) (N := some 21) (v := ?_) (a' := ?_) #[true, true, false, false, false, false, false, false, false, false, false, false, false, false, false, false, false, false, false, false, false, false] rfl rfl (by kernel_rfl) (fun _ _ _ h => h) (Or.inl ⟨by rfl, ?_⟩) ?_ ?_
      rotate_left
      · intro w'
        go_simp
        with_reducible rfl
      rotate_left
      · simp only [Act.put, List.setIfInBounds_toArray, List.set_cons_zero, List.set_cons_succ, i64_w, i32_w]
        rfl
      refine pure_ (i := 2) (N := some 22) (v := ?_) (a' := ?_) #[true, true, true, false, false, false, false, false, false, false, false, false, false, false, false, false, false, false, false, false, false, false] rfl rfl (by kernel_rfl) (fun _ _ _ h => h) (Or.inl ⟨by rfl, ?_⟩) ?_ ?_
      rotate_left
      · intro w'
        go_simp
        with_reducible rfl
      rotate_left
      · simp only [Act.put, List.setIfInBounds_toArray, List.set_cons_zero, List.set_cons_succ, i64_w, i32_w]
        rfl
      refine pure_ (i := 3) (N := some 23) (v := ?_) (a' := ?_) #[true, true, true, true, false, false, false, false, false, false, false, false, false, false, false, false, false, false, false, false, false, false] rfl rfl (by kernel_rfl) (fun _ _ _ h => h) (Or.inl ⟨by rfl, ?_⟩) ?_ ?_
      rotate_left
      · intro w'
        go_simp
        with_reducible rfl
      rotate_left
      · simp only [Act.put, List.setIfInBounds_toArray, List.set_cons_zero, List.set_cons_succ, i64_w, i32_w]
        rfl
      refine pure_ (i := 4) (N := some 24) (v := ?_) (a' := ?_) #[true, true, true, true, true, false, false, false, false, false, false, false, false, false, false, false, false, false, false, false, false, false] rfl rfl (by kernel_rfl) (fun _ _ _ h => h) (Or.inl ⟨by rfl, ?_⟩) ?_ ?_
      rotate_left
      · intro w'
        go_simp
        with_reducible rfl
      rotate_left
      · simp only [Act.put, List.setIfInBounds_toArray, List.set_cons_zero, List.set_cons_succ, i64_w, i32_w]
        rfl
      refine pure_ (i := 5) (N := some 25) (v := ?_) (a' := ?_) #[true, true, true, true, true, true, false, false, false, false, false, false, false, false, false, false, false, false, false, false, false, false] rfl rfl (by kernel_rfl) (fun _ _ _ h => h) (Or.inl ⟨by rfl, ?_⟩) ?_ ?_
      rotate_left
      · intro w'
        go_simp
        with_reducible rfl
      rotate_left
      · simp only [Act.put, List.setIfInBounds_toArray, List.set_cons_zero, List.set_cons_succ, i64_w, i32_w]
        rfl
      refine pure_ (i := 6) (N := some 26) (v := ?_) (a' := ?_) #[true, true, true, true, true, true, true, false, false, false, false, false, false, false, false, false, false, false, false, false, false, false] rfl rfl (by kernel_rfl) (fun _ _ _ h => h) (Or.inl ⟨by rfl, ?_⟩) ?_ ?_
      rotate_left
      · intro w'
        go_simp
        with_reducible rfl
      rotate_left
      · simp only [Act.put, List.setIfInBounds_toArray, List.set_cons_zero, List.set_cons_succ, i64_w, i32_w]
        rfl
      refine pure_ (i := 7) (N := some 27) (v := ?_) (a' := ?_) #[true, true, true, true, true, true, true, true, false, false, false, false, false, false, false, false, false, false, false, false, false, false] rfl rfl (by kernel_rfl) (fun _ _ _ h => h) (Or.inl ⟨by rfl, ?_⟩) ?_ ?_
      rotate_left
      · intro w'
        go_simp
        with_reducible rfl
      rotate_left
      · simp only [Act.put, List.setIfInBounds_toArray, List.set_cons_zero, List.set_cons_succ, i64_w, i32_w]
        rfl
      refine pure_ (i := 9) (N := some 29) (v := ?_) (a' := ?_) #[true, true, true, true, true, true, true, true, false, true, false, false, false, false, false, false, false, false, false, false, false, false] rfl rfl (by kernel_rfl) (fun _ _ _ h => h) (Or.inl ⟨by rfl, ?_⟩) ?_ ?_
      rotate_left
      · intro w'
        go_simp
        with_reducible rfl
      rotate_left
      · simp only [Act.put, List.setIfInBounds_toArray, List.set_cons_zero, List.set_cons_succ, i64_w, i32_w]
        rfl
      refine pure_ (i := 10) (N := some 30) (v := ?_) (a' := ?_) #[true, true, true, true, true, true, true, true, false, true, true, false, false, false, false, false, false, false, false, false, false, false] rfl rfl (by kernel_rfl) (fun _ _ _ h => h) (Or.inl ⟨by rfl, ?_⟩) ?_ ?_
      rotate_left
      · intro w'
        go_simp
        with_reducible rfl
      rotate_left
      · simp only [Act.put, List.setIfInBounds_toArray, List.set_cons_zero, List.set_cons_succ, i64_w, i32_w]
        rfl
      refine pure_ (i := 11) (N := some 31) (v := ?_) (a' := ?_) #[true, true, true, true, true, true, true, true, false, true, true, true, false, false, false, false, false, false, false, false, false, false] rfl rfl (by kernel_rfl) (fun _ _ _ h => h) (Or.inl ⟨by rfl, ?_⟩) ?_ ?_
      rotate_left
      · intro w'
        go_simp
        with_reducible rfl
      rotate_left
      · simp only [Act.put, List.setIfInBounds_toArray, List.set_cons_zero, List.set_cons_succ, i64_w, i32_w]
        rfl
      refine pure_ (i := 12) (N := some 32) (v := ?_) (a' := ?_) #[true, true, true, true, true, true, true, true, false, true, true, true, true, false, false, false, false, false, false, false, false, false] rfl rfl (by kernel_rfl) (fun _ _ _ h => h) (Or.inl ⟨by rfl, ?_⟩) ?_ ?_
      rotate_left
      · intro w'
        go_simp
        with_reducible rfl
      rotate_left
      · simp only [Act.put, List.setIfInBounds_toArray, List.set_cons_zero, List.set_cons_succ, i64_w, i32_w]
        rfl
      refine pure_ (i := 13) (N := some 33) (v := ?_) (a' := ?_) #[true, true, true, true, true, true, true, true, false, true, true, true, true, true, false, false, false, false, false, false, false, false] rfl rfl (by kernel_rfl) (fun _ _ _ h => h) (Or.inl ⟨by rfl, ?_⟩) ?_ ?_
      rotate_left
      · intro w'
        go_simp
        with_reducible rfl
      rotate_left
      · simp only [Act.put, List.setIfInBounds_toArray, List.set_cons_zero, List.set_cons_succ, i64_w, i32_w]
        rfl
      refine pure_ (i := 15) (N := some 35) (v := ?_) (a' := ?_) #[true, true, true, true, true, true, true, true, false, true, true, true, true, true, false, true, false, false, false, false, false, false] rfl rfl (by kernel_rfl) (fun _ _ _ h => h) (Or.inl ⟨by rfl, ?_⟩) ?_ ?_
      rotate_left
      · intro w'
        go_simp
        with_reducible rfl
      rotate_left
      · simp only [Act.put, List.setIfInBounds_toArray, List.set_cons_zero, List.set_cons_succ, i64_w, i32_w]
        rfl
      refine take_ (i := 8) (N := some 28) (v := ?_) (a' := ?_) #[true, true, true, true, true, true, true, true, true, true, true, true, true, true, false, true, false, false, false, false, false, false] rfl rfl (by kernel_rfl) (fun _ _ _ h => h) (Or.inl ⟨by rfl, ?_⟩) hHeld ?_ ?_
      rotate_left
      · rintro w' ⟨s0, s1, s2, s3⟩
        go_simp
        with_reducible rfl
      rotate_left
      · simp only [Act.put, List.setIfInBounds_toArray, List.set_cons_zero, List.set_cons_succ, i64_w, i32_w]
        rfl
      refine take_ (i := 14) (N := some 34) (v := ?_) (a' := ?_) #[true, true, true, true, true, true, true, true, true, true, true, true, true, true, true, true, false, false, false, false, false, false] rfl rfl (by kernel_rfl) (fun _ _ _ h => h) (Or.inl ⟨by rfl, ?_⟩) hHeld ?_ ?_
      rotate_left
      · rintro w' ⟨s0, s1, s2, s3⟩
        go_simp
        with_reducible rfl
      rotate_left
      · simp only [Act.put, List.setIfInBounds_toArray, List.set_cons_zero, List.set_cons_succ, i64_w, i32_w]
        rfl
      refine pure_ (i := 16) (N := some 36) (v := ?_) (a' := ?_) #[true, true, true, true, true, true, true, true, true, true, true, true, true, true, true, true, true, false, false, false, false, false] rfl rfl (by kernel_rfl) (fun _ _ _ h => h) (Or.inl ⟨by rfl, ?_⟩) ?_ ?_
      rotate_left
      · intro w'
        go_simp
        with_reducible rfl
      rotate_left
      · simp only [Act.put, List.setIfInBounds_toArray, List.set_cons_zero, List.set_cons_succ, i64_w, i32_w]
        rfl
      refine one_ (i := 17) (N := some 37) #[true, true, true, true, true, true, true, true, true, true, true, true, true, true, true, true, true, true, false, false, false, false] rfl rfl (by kernel_rfl) (by decide) (fun K hK => ?_)
      refine goes_ Try.func30 (by kernel_rfl) rfl #[.int .i64 (wrap64 (xh + more)), .int .i64 12] (by rfl) rfl rfl (by simp only [List.map_toArray, List.map_cons, List.map_nil]; rfl) ?_
      with_reducible refine (morainelaw08_among.calls _ 12 _ _ HAM.out).mono ?_
      rintro e w3 ⟨rfl, hd⟩
      refine ⟨_, rfl, ?_⟩
      have HD3 := Aside0.mk (show Below w.heap.size w w3 from below_step (pw_below_drewN HB.out 1) hd.below)
      have HS3 := Aside0.mk (show SkAt w3 g w.heap.size S 1048576 from (HSK.out.below (pw_below_drewN (Below.refl _ _) 1)).below hd.below)
      have HR3 := Aside0.mk (show Kd.R (Kd.int .i64) 3 w3 w.heap.size (fun _ => True) u8 t from Kd.R_below (Kd.R_below HR.out (pw_below_drewN (Below.refl _ _) 1)) hd.below)
      clear hd
      refine hK.out _ _ ⟨(HQ.out _ HD3.out).1, (HQ.out _ HD3.out).2.1, (HQ.out _ HD3.out).2.2.1, (HQ.out _ HD3.out).2.2.2⟩ (fun hHeld => ?_)
      clear hK K
      refine norm_ (a' := ?_) ?_ ?_
      rotate_left
      · show Act.put _ (some 37) _ = _
        simp only [Act.put, List.setIfInBounds_toArray, List.set_cons_zero, List.set_cons_succ, i64_w, i32_w]
        rfl
      refine pure_ (i := 18) (N := some 38) (v := ?_) (a' := ?_) #[true, true, true, true, true, true, true, true, true, true, true, true, true, true, true, true, true, true, true, false, false, false] rfl rfl (by kernel_rfl) (fun _ _ _ h => h) (Or.inl ⟨by rfl, ?_⟩) ?_ ?_
      rotate_left
      · intro w'
        go_simp
        with_reducible rfl
      rotate_left
      · simp only [Act.put, List.setIfInBounds_toArray, List.set_cons_zero, List.set_cons_succ, i64_w, i32_w]
        rfl
      refine one_ (i := 19) (N := some 39) #[true, true, true, true, true, true, true, true, true, true, true, true, true, true, true, true, true, true, true, true, false, false] rfl rfl (by kernel_rfl) (by decide) (fun K hK => ?_)
      refine goes_ Try.func13 (by kernel_rfl) rfl #[.pointer (some ⟨g, 0, none⟩), .agg #[.string ks, .int .u64 kn, .int .i64 kd], .int .i64 (i : Int), .int .i64 (wrap64 (1 + am))] (by rfl) rfl rfl (by simp only [List.map_toArray, List.map_cons, List.map_nil]; rfl) ?_
      with_reducible refine (HIN.out _ HS3.out).mono ?_
      rintro e w4 ⟨rfl, hsk, hb, hk⟩
      refine ⟨_, rfl, ?_⟩
      have HS4 := Aside0.mk hsk
      have HB4 := Aside0.mk (show Below w.heap.size w w4 from HD3.out.trans hb)
      have HR4 := Aside0.mk (turns_ints hk HS3.out HR3.out)
      clear hsk hb hk
      refine hK.out _ _ ⟨(HQ.out _ HB4.out).1, (HQ.out _ HB4.out).2.1, (HQ.out _ HB4.out).2.2.1, (HQ.out _ HB4.out).2.2.2⟩ (fun hHeld => ?_)
      clear hK K
      refine norm_ (a' := ?_) ?_ ?_
      rotate_left
      · show Act.put _ (some 39) _ = _
        simp only [Act.put, List.setIfInBounds_toArray, List.set_cons_zero, List.set_cons_succ, i64_w, i32_w]
        rfl
      refine pure_ (i := 20) (N := some 40) (v := ?_) (a' := ?_) #[true, true, true, true, true, true, true, true, true, true, true, true, true, true, true, true, true, true, true, true, true, false] rfl rfl (by kernel_rfl) (fun _ _ _ h => h) (Or.inl ⟨by rfl, ?_⟩) ?_ ?_
      rotate_left
      · intro w'
        go_simp
        with_reducible rfl
      rotate_left
      · simp only [Act.put, List.setIfInBounds_toArray, List.set_cons_zero, List.set_cons_succ, i64_w, i32_w]
        rfl
      refine pure_ (i := 21) (N := some 41) (v := ?_) (a' := ?_) #[true, true, true, true, true, true, true, true, true, true, true, true, true, true, true, true, true, true, true, true, true, true] rfl rfl (by kernel_rfl) (fun _ _ _ h => h) (Or.inl ⟨by rfl, ?_⟩) ?_ ?_
      rotate_left
      · intro w'
        go_simp
        with_reducible rfl
      rotate_left
      · simp only [Act.put, List.setIfInBounds_toArray, List.set_cons_zero, List.set_cons_succ, i64_w, i32_w]
        rfl
      refine done_ (by kernel_rfl) ?_
      have hhh := hHeld
      clear f0 f1 f2 f3 HSK HR HB HD3 HS3 HR3
      clear hhh
      by_cases h0 : ic = 0
      · have b2 : (ic == 0) = true := by simp [h0]
        have HNX := Aside0.mk (show madeL more l = madeS (hgt more) (putsOf (l.drop (i + 1))) (i + 1) (S.put (ks, kn, kd) (i : Int) H) (t ++ [(i : Int)]) by rw [HX.out, if_pos (HIC.out.trans h0)])
        have HSE := Aside0.mk (show S2 = S.put (ks, kn, kd) (i : Int) H by rw [← HS2.out]; unfold insS; rw [if_pos (HIC.out.trans h0), Int.toNat_natCast])
        have HM2 := Aside0.mk (HMD.out.put (HIC.out.trans h0) (i : Int))
        have HLN := Aside0.mk (show t.length ≤ 1048576 by omega)
        clear h0
        go_wp2_with (first | ((with_reducible refine gate_builtin (b := .append) (xs := #[.tmp 42, .tmp 44]) rfl ?_); at_builtin; refine Kd.R_append (Kd.int .i64) (w0 := w) w.heap.size rfl (.tmp 42) (.tmp 44) 28 3 (.int .i64 0) 8 rfl Try.underlying28 info3 rfl (by decide) (by omega) u8 (t) ((i : Int)) [.int .i64 ((i : Int))] (fun _ => True) (fun _ => False) rfl rfl ?aP (fun _ hk => hk.elim) ?aF ?aO ?aB ?aS ?aL ?_; (case aP => exact rfl); (case aB => exact (by repeat (first | (with_reducible first | exact HB4.out | apply below_alloc | apply pw_below_drewN | apply below_drew1) | exact HB4.out))); (case aF => exact (fun _ _ => trivial)); (case aO => exact (by (with_reducible repeat (first | apply Kd.R_alloc | apply Kd.R_drewN | apply Kd.R_drew)); exact HR4.out)); (case aS => exact (below_size (by repeat (first | (with_reducible first | exact HB4.out | apply below_alloc | apply pw_below_drewN | apply below_drew1) | exact HB4.out)))); (case aL => have := HLN.out; omega); intro vN wN ho hb hg hat; have HRN := Aside0.mk ho; have HBN := Aside0.mk hb; have HSN := Aside0.mk (HS4.out.own HR4.out hg); clear HR4 HB4 ho hb hg hat))
        go_roundg gk1
        case measure => omega
        case rel => exact ⟨i + 1, S2, t ++ [(i : Int)], by go_num, by omega, by omega, by rw [List.length_append, List.length_singleton]; omega, by rw [HSE.out]; exact HM2, ⟨by rw [HSE.out]; exact HNX.out.symm⟩, HSN, HRN, HBN⟩
      · have b2 : (ic == 0) = false := by simp [h0]
        have HNX := Aside0.mk (show madeL more l = madeS (hgt more) (putsOf (l.drop (i + 1))) (i + 1) S t by rw [HX.out, if_neg (fun e => h0 (HIC.out.symm.trans e))])
        have HSE := Aside0.mk (show S2 = S by rw [← HS2.out]; unfold insS; rw [if_neg (fun e => h0 (HIC.out.symm.trans e))])
        clear h0
        go_wp2
        go_roundg gk1
        case measure => omega
        case rel => exact ⟨i + 1, S2, t, by go_num, by omega, by omega, by omega, by rw [HSE.out]; exact HMD, ⟨by rw [HSE.out]; exact HNX.out.symm⟩, HS4, HR4, HB4⟩
    · obtain rfl : i = m := by omega
      have b1 : decide ((i : Int) < (i : Int)) = false := decide_eq_false (by omega)
      have HEND := Aside0.mk (show (S, t) = madeL more l by have h := HMS.out; rw [List.drop_of_length_le (by rw [HM.out]; exact Nat.le_refl _)] at h; exact h)
      go_wp2
      refine bodyPost_ret (by simp [results, Try.results17, go_sem]; rfl) rfl ?_
      refine ⟨g, _, rfl, ?_⟩
      rw [← HEND.out]
      exact ⟨HSK.out, HR.out, HB.out⟩

end Go.Proofs.Ytehfcafmdnfamaa.G

/- Contracts typed by hand: a skiplist: gone, a walk through all nodes -/
namespace Go.Proofs.Ytehfcafmdnfamaa.G
open Go.RowKit Go.Proofs.YtehfcafmdnfamaaW.PrintWords Go.Proofs.YtehfcafmdnfamaaW.PrintLast Go.Proofs.YtehfcafmdnfamaaW.PrintMore
attribute [local go_sem] max2_int min2_int max_two min_two max_three min_three max_four min_four
set_option linter.unusedVariables false
set_option linter.unusedSimpArgs false

/-! a skiplist: gone, a walk through all nodes -/
open Go.Shelf
attribute [local go_sem] Oper.semAt_some
/-- what a round that goes on keeps: all blocks below n₀, but for some -/
def KpS (n₀ : Nat) (S : Nat → Prop) (A B : World) : Prop := A.heap.size ≤ B.heap.size ∧ ∀ k, k < n₀ → ¬ S k → B.heap[k]? = A.heap[k]?
theorem KpS.refl (n₀ : Nat) (S : Nat → Prop) (A : World) : KpS n₀ S A A := ⟨Nat.le_refl _, fun _ _ _ => rfl⟩
theorem KpS.trans {n₀ : Nat} {S : Nat → Prop} {A B C : World} (h : KpS n₀ S A B) (k : KpS n₀ S B C) : KpS n₀ S A C := ⟨Nat.le_trans h.1 k.1, fun i hi hs => (k.2 i hi hs).trans (h.2 i hi hs)⟩
theorem KpS.below {n₀ : Nat} {S : Nat → Prop} {A B C : World} (h : KpS n₀ S A B) (hn : n₀ ≤ B.heap.size) (k : Below B.heap.size B C) : KpS n₀ S A C := h.trans ⟨k.size, fun i hi _ => k.block i (by omega)⟩
theorem kpS_putObj (n₀ : Nat) (S : Nat → Prop) (W : World) (l : Nat) (o' : Obj) (h : n₀ ≤ l) : KpS n₀ S W (W.putObj l o') :=
  ⟨(grownBy_putObj' W l o').size, fun k hk _ => World.putObj_heap_other (by omega)⟩
theorem cells_own (B : Nat) (cs : Array Value) (t : TypeId) : ∀ (X Y : World) (row : Option Nat), X.heap[B]? = some (.cells cs t (0, 0)) → X.grownBy Y row → (∀ r, row = some r → ∃ o : Obj, X.heap[r]? = some o ∧ o.isCells = false) → Y.heap[B]? = some (.cells cs t (0, 0)) := fun X Y row h hg hrow =>
  (hg.block B (blk_lt h) (fun e' => by
    obtain ⟨o, ho, hc⟩ := hrow B e'.symm
    rw [h] at ho; cases ho; cases hc)).trans h
theorem row_own {n₀ : Nat} {e : TypeId} {size k : Nat} {v : Value} {xs : List Value} : ∀ (X Y : World) (row : Option Nat), X.ownsRow n₀ e size v k xs → X.grownBy Y row → (∀ r, row = some r → ∃ o : Obj, X.heap[r]? = some o ∧ o.isCells = false) → Y.ownsRow n₀ e size v k xs := by
  intro X Y row hr hg hrow
  refine hr.kept hg ?_
  rcases hr.2 with ⟨rfl, _⟩ | ⟨g, cap, cur, rfl, _, hgb, _⟩
  · exact .inl rfl
  · refine .inr fun e' => ?_
    obtain ⟨o, ho, hc⟩ := hrow g (by simpa [Value.ownBlock] using e'.symm)
    rw [hgb] at ho; cases ho; cases hc
theorem cells3_new (W : World) (x y z : Value) (t : TypeId) : ∀ (j : Nat) (u : Value), [x, y, z][j]? = some u → (W.alloc (.cells #[x, y, z] t)).cell? ((⟨W.heap.size, 0, none⟩ : Addr).add j) = some u := by
  intro j u h
  have e := World.alloc_heap_new W (.cells #[x, y, z] t)
  revert e
  generalize W.alloc (.cells #[x, y, z] t) = X
  intro e
  rcases j with _ | _ | _ | j
  · simp at h; subst h; simp [World.cell?, Addr.add, e]
  · simp at h; subst h; simp [World.cell?, Addr.add, e]
  · simp at h; subst h; simp [World.cell?, Addr.add, e]
  · simp at h
theorem cells1_new (W : World) (x : Value) (t : TypeId) : ∀ (j : Nat) (u : Value), [x][j]? = some u → (W.alloc (.cells #[x] t)).cell? ((⟨W.heap.size, 0, none⟩ : Addr).add j) = some u := by
  intro j u h
  have e := World.alloc_heap_new W (.cells #[x] t)
  revert e
  generalize W.alloc (.cells #[x] t) = X
  intro e
  rcases j with _ | j
  · simp at h; subst h; simp [World.cell?, Addr.add, e]
  · simp at h
theorem own_apart {w : World} {n n' e e' s s' k k' : Nat} {v v' : Value} {xs xs' : List Value} (h : w.ownsRow n e s v k xs) (h' : w.ownsRow n' e' s' v' k' xs') (hne : e ≠ e') : v.ownBlock = none ∨ v.ownBlock ≠ v'.ownBlock := by
  rcases h.2 with ⟨rfl, _⟩ | ⟨g, cap, cur, rfl, _, hgb, _⟩
  · exact .inl rfl
  · right
    rcases h'.2 with ⟨rfl, _⟩ | ⟨g', cap', cur', rfl, _, hgb', _⟩
    · simp [Value.ownBlock]
    · intro e
      obtain rfl : g = g' := by simpa [Value.ownBlock] using e
      rw [hgb] at hgb'
      injection hgb' with hgb'
      injection hgb' with _ h2 _
      exact hne h2
theorem own_off {w : World} {n e s k : Nat} {v : Value} {xs : List Value} (h : w.ownsRow n e s v k xs) : ∀ j, v.ownBlock = some j → n ≤ j := by
  intro j ej
  rcases h.2 with ⟨rfl, _⟩ | ⟨g', cap, cur, rfl, hb', _, _⟩
  · simp [Value.ownBlock] at ej
  · obtain rfl : g' = j := by simpa [Value.ownBlock] using ej
    exact hb'
theorem own_cells {w : World} {n e s k : Nat} {v : Value} {xs : List Value} (h : w.ownsRow n e s v k xs) : ∀ (j : Nat) (o : Obj), v.ownBlock = some j → w.heap[j]? = some o → o.isCells = true := by
  intro j o ej hj
  rcases h.2 with ⟨rfl, _⟩ | ⟨g2, cap, cur, rfl, _, hgb, _⟩
  · simp [Value.ownBlock] at ej
  · obtain rfl : g2 = j := by simpa [Value.ownBlock] using ej
    rw [hgb] at hj; cases hj; rfl
theorem SkAt.heap {w w1 : World} {g base most : Nat} {S : SL Int} (h : SkAt w g base S most) (hk : ∀ k, k < w.heap.size → w1.heap[k]? = w.heap[k]?) : SkAt w1 g base S most := by
  obtain ⟨b, c, ns, h1, h2, h3⟩ := h
  refine ⟨b, c, ns, (hk g (blk_lt h1)).trans h1, ndR_move h2 fun q hq => hk q (Kd.R_lt h2 q hq), h3⟩
theorem all_stops (n₀ n g base most : Nat) (v : Value) (S : SL Int) (hS : S.Fine ∧ S.nodes.length ≤ 1048576) (P : Nat → Prop) (w : World) (hn : n₀ ≤ w.heap.size)
    (hread : ∀ W', KpS n₀ P w W' → ReadAt W' n g base most v S) :
    SeqStopsK Fence.wide 2 Try.prog 45 #[.pointer (some ⟨n + 1, 0, none⟩), .pointer (some ⟨n, 0, none⟩)] encE (KpS n₀ P) (fun ys => ys = elems S) (fun pre => pre <+: elems S) (elems S).length w := fun l J Jx W hW hJ _ hY h0 =>
  all1_in l n g base most v S hS (KpS n₀ P) KpS.trans J Jx W (KpS.refl _ _ _) (fun W' hK => hread W' (((KpS.refl n₀ P w).below hn hW).trans hK)) hY h0
def s37 (k : IK) : S37 := ⟨k.1, k.2.1, k.2.2⟩
def kcells (x : Nat × IK) : List Value := [.string x.2.1, .int .u64 x.2.2.1, .int .i64 x.2.2.2]
def icells (x : Nat × IK) : Value := .int .i64 (x.1 : Int)
theorem R_of_keys {w : World} {base : Nat} {v : Value} {l : List (Nat × IK)} (h : w.ownsRow base 37 3 v l.length (l.flatMap kcells)) : Kd.R k37 37 w base (fun _ => True) v (l.map fun x => s37 x.2) := by
  refine ⟨fun _ _ => trivial, l.flatMap kcells, by rw [List.length_map]; exact h, ?_⟩
  clear h
  induction l with
  | nil => exact Reps.none _ _
  | cons x r ih => exact Reps.c3 (k37_mkM _ _ _ (s37 x.2)) ih
theorem R_of_ints {w : World} {base : Nat} {v : Value} {l : List (Nat × IK)} (h : w.ownsRow base 3 1 v l.length (l.map icells)) : Kd.R (Kd.int .i64) 3 w base (fun _ => True) v (l.map fun x => (x.1 : Int)) := by
  refine Kd.R_of_own ?_ (fun _ _ => trivial)
  rw [List.length_map]
  have e : encs (Value.int .i64) (l.map fun x => (x.1 : Int)) = l.map icells := by simp [encs, icells]
  rw [e]; exact h
/-- what holds of the two variables that the rounds write -/
def GonI (w : World) (n₀ : Nat) (pre : List (Nat × IK)) (W : World) : Prop :=
  (∃ v, Boxed W (w.heap.size + 1) 28 v ∧ W.ownsRow n₀ 3 1 v pre.length (pre.map icells)) ∧ (∃ v, Boxed W (w.heap.size + 2) 60 v ∧ W.ownsRow n₀ 37 3 v pre.length (pre.flatMap kcells)) ∧ Boxed W w.heap.size 3 (.int .i64 (-1)) ∧ Below w.heap.size w W ∧ n₀ ≤ W.heap.size
theorem gonI_own (w : World) (n₀ B : Nat) (hB : w.heap.size ≤ B) : OwnFrom B (GonI w n₀) := by
  rintro pre X Y row ⟨⟨v, h1, h2⟩, ⟨v', h1', h2'⟩, h3, h4, h5⟩ hg hr
  have hr' : ∀ r, row = some r → ∃ o : Obj, X.heap[r]? = some o ∧ o.isCells = false := fun r e => (hr r e).2
  exact ⟨⟨v, cells_own _ _ _ X Y row h1 hg hr', row_own X Y row h2 hg hr'⟩, ⟨v', cells_own _ _ _ X Y row h1' hg hr', row_own X Y row h2' hg hr'⟩, cells_own _ _ _ X Y row h3 hg hr', h4.grown hg h4.size (fun k e => by have := (hr k e).1; omega), Nat.le_trans h5 hg.size⟩
/-- a round's activation -/
def gonAx (g : Nat) (w : World) (F : Value) (n0 : Nat) (x : Nat × IK) (a' : Act) (W : World) : Prop :=
  ∃ Bx, n0 ≤ Bx ∧ W.heap[Bx]? = some (.cells #[.string x.2.1, .int .u64 x.2.2.1, .int .i64 x.2.2.2] 37 (0, 0)) ∧ a' = { tmps := #[.pointer (some ⟨g, 0, none⟩), .int .i64 (-1), undef, .pointer (some ⟨w.heap.size, 0, none⟩), .slice none 0 0, .slice none 0 0, .pointer (some ⟨w.heap.size + 1, 0, none⟩), .pointer (some ⟨w.heap.size + 2, 0, none⟩), F, .int .i64 (x.1 : Int), .pointer (some ⟨Bx, 0, none⟩), .pointer (some ⟨g, 0, none⟩), F, F, .bool false, undef, F, .int .i64 (x.1 : Int), .agg #[.string x.2.1, .int .u64 x.2.2.1, .int .i64 x.2.2.2], undef, undef, undef, undef, undef, undef, undef, undef, undef, undef, undef, undef, undef, undef], defers := [] }
set_option maxHeartbeats 16000000 in
set_option maxRecDepth 100000 in
theorem gone_calls (g base most : Nat) (S : SL Int) (w : World) (h : SkAt w g base S most) : Calls Try.prog 31 #[.pointer (some ⟨g, 0, none⟩), .int .i64 (-1)] w fun e w' => ∃ v1 v2, e = .returned (.tuple #[v1, v2]) ∧ Kd.R (Kd.int .i64) 3 w' w.heap.size (fun _ => True) v1 (ordI S) ∧ Kd.R k37 37 w' w.heap.size (fun _ => True) v2 (S.order.map fun z => s37 (S.key z)) ∧ Below w.heap.size w w' := by
  refine (callsIn_wide (n := 3)).1 ?_
  have HS := Aside0.mk h.fine
  have HSK := Aside0.mk h
  have HB0 := Aside0.mk (below_alloc (below_alloc (below_alloc (Below.refl w.heap.size w) (.cells #[.int .i64 (-1)] 3)) (.cells #[.slice none 0 0] 28)) (.cells #[.slice none 0 0] 60))
  obtain ⟨W0, hW0⟩ : ∃ W0, ((w.alloc (.cells #[.int .i64 (-1)] 3)).alloc (.cells #[.slice none 0 0] 28)).alloc (.cells #[.slice none 0 0] 60) = W0 := ⟨_, rfl⟩
  have hz0 : W0.heap.size = w.heap.size + 3 := by rw [← hW0, World.size_alloc, World.size_alloc, World.size_alloc]
  have hx0 : Boxed W0 w.heap.size 3 (.int .i64 (-1)) := by rw [← hW0]; exact ((Boxed.new w 3 (.int .i64 (-1))).alloc _).alloc _
  have hx1 : Boxed W0 (w.heap.size + 1) 28 (.slice none 0 0) := by
    have := (Boxed.new (w.alloc (.cells #[.int .i64 (-1)] 3)) 28 (.slice none 0 0)).alloc (.cells #[.slice none 0 0] 60)
    rw [World.size_alloc] at this
    rw [← hW0]; exact this
  have hx2 : Boxed W0 (w.heap.size + 2) 60 (.slice none 0 0) := by
    have := Boxed.new ((w.alloc (.cells #[.int .i64 (-1)] 3)).alloc (.cells #[.slice none 0 0] 28)) 60 (.slice none 0 0)
    rw [World.size_alloc, World.size_alloc] at this
    rw [← hW0]; exact this
  rw [hW0] at HB0
  have HX0 := Aside0.mk hx0
  have HX1 := Aside0.mk hx1
  have HX2 := Aside0.mk hx2
  have HW := Aside0.mk hW0
  have HZ := Aside0.mk hz0
  have HAL := Aside0.mk (sk_all g base most S W0 (h.below HB0.out))
  rw [hz0] at HAL
  clear h hx0 hx1 hx2 hW0 hz0
  refine callsIn_of_wp_marks Try.func31 rfl trivial ?_ rfl
  simp only [Try.ntmps31, List.size_toArray, List.length_cons, List.length_nil, Nat.reduceAdd, Nat.reduceSub, Array.replicate_succ, Array.replicate_zero, List.push_toArray, List.append_toArray, List.nil_append, List.cons_append]
  gi_wp2_with fail
  refine ⟨trivial, ?_⟩
  rw [HW.out]
  (with_reducible refine (callsIn_wide.2 HAL.out).mono ?_)
  rintro e w3 ⟨v, rfl, hat, hb⟩
  rw [show w.heap.size + 3 = W0.heap.size from HZ.out.symm] at hb
  have HAT := Aside0.mk hat
  have HB3 := Aside0.mk (below_step HB0.out hb)
  have X0 := HX0.out.kept (row := none) ⟨hb.os, hb.tape, hb.output, hb.size, fun k hk _ => hb.block k hk⟩ (by simp)
  have X1 := HX1.out.kept (row := none) ⟨hb.os, hb.tape, hb.output, hb.size, fun k hk _ => hb.block k hk⟩ (by simp)
  have X2 := HX2.out.kept (row := none) ⟨hb.os, hb.tape, hb.output, hb.size, fun k hk _ => hb.block k hk⟩ (by simp)
  have HX0 := Aside0.mk X0
  have HX1 := Aside0.mk X1
  have HX2 := Aside0.mk X2
  have hs3 : w.heap.size + 3 < w3.heap.size := by have := blk_lt hat.box; omega
  clear hb hat X0 X1 X2 HAL HW
  have hcmp : ∀ (lb : Array Value) (X : World), (binOp .eql 42 (.func (.func 45) #[] lb) .nilFunc).run Try.prog X = .ok (.bool false) X := by
    intro lb X
    first | rfl | (simp [binOp, go_sem]; done) | (unfold binOp; simp [go_sem, Try.underlying42]; done)
  gi_wp2_with fail
  gi_wp2_with fail
  refine wpIn_rangeFunc_ownH (n := 3) (F := Fence.wide) rfl (by decide) (gf := 45) (lb := #[.pointer (some ⟨w.heap.size + 3 + 1, 0, none⟩), .pointer (some ⟨w.heap.size + 3, 0, none⟩)]) rfl trivial (enters_of Try.func45 (by kernel_rfl) rfl)
    (all_stops w3.heap.size (w.heap.size + 3) g base most v S ⟨HS.out.1, HS.out.2.1⟩ (fun k => k = w.heap.size + 1 ∨ k = w.heap.size + 2) w3 (Nat.le_refl _) ?read) KpS.trans ?put (Below.refl _ _) (fun _ => rfl)
    (GonI w w3.heap.size) (fun _ _ _ => False) (gonI_own w _ _ (by omega)) (fun _ _ _ _ _ hs _ _ => hs) ?init (gonAx g w (.func (.func 45) #[] #[.pointer (some ⟨w.heap.size + 3 + 1, 0, none⟩), .pointer (some ⟨w.heap.size + 3, 0, none⟩)]) w3.heap.size) ?ax ?assign ?body ?done ?stop
  case read =>
    intro W' hK
    refine ⟨⟨(hK.2 _ (blk_lt HAT.out.lst) (by omega)).trans HAT.out.lst, (hK.2 _ (blk_lt HAT.out.box) (by omega)).trans HAT.out.box, intR_move HAT.out.row fun q hq => hK.2 q (Kd.R_lt HAT.out.row q hq) (by have := Kd.R_base HAT.out.row q hq; omega)⟩, S, HSK.out.heap (fun k hk => (hK.2 k (by omega) (by omega)).trans (HB3.out.block k hk)), Ext.refl S⟩
  case put =>
    intro W l o o' hl _ _ _
    exact kpS_putObj _ _ W l o' hl
  case init => exact ⟨⟨_, HX1.out, World.ownsRow_nil _ _ _ _⟩, ⟨_, HX2.out, World.ownsRow_nil _ _ _ _⟩, HX0.out, HB3.out, Nat.le_refl _⟩
  case ax =>
    rintro x a' _ X Y row ⟨Bx, h1, h2, h3⟩ hg hr
    exact ⟨Bx, h1, cells_own Bx _ _ X Y row h2 hg (fun r e => (hr r e).2), h3⟩
  case assign =>
    rintro l pre x W K hI hK
    have hws := hI.2.2.2.2
    simp only [encE]
    gi_wp2
    exact hK _ _ ((KeepsOthers.alloc W _).from _) ⟨by rw [World.size_alloc]; omega, fun k hk _ => Below.heap_alloc W _ k (by omega)⟩ ((gonI_own w w3.heap.size w3.heap.size (by omega)).alloc _ hI) ⟨W.heap.size, hws, World.alloc_heap_new W _, rfl⟩
  case body =>
    rintro l pre x a' W hl hr ⟨⟨v6, hv6, hrow6⟩, ⟨v7, hv7, hrow7⟩, hm, hbw, hws⟩ ⟨Bx, hBx, hbx, rfl⟩ hlt
    have hpl : pre.length < 1048576 := by
      have h1 := elems_len S
      have h2 := HS.out.1.len
      have h3 := HS.out.2.1
      omega
    obtain ⟨xz, ⟨ks, kn, kd⟩⟩ := x
    have hbx' : W.heap[Bx]? = some (.cells #[.string ks, .int .u64 kn, .int .i64 kd] 37 (0, 0)) := hbx
    have hoff6 := own_off hrow6
    have hoff7 := own_off hrow7
    have hne6 : some Bx ≠ v6.ownBlock := by
      rcases hrow6.2 with ⟨rfl, _⟩ | ⟨g', cap, cur, rfl, _, hgb, _⟩
      · simp [Value.ownBlock]
      · intro e
        obtain rfl : Bx = g' := by simpa [Value.ownBlock] using e
        rw [hbx'] at hgb
        injection hgb with hgb
        injection hgb with _ h2 _
        exact absurd h2 (by decide)
    have hcl6 := own_cells (hrow6.alloc (.cells #[.int .i64 (xz : Int)] 3))
    have hinfo : (Try.prog.info? 3).map (fun i => (i.zero, i.size, i.bytes)) = some (some (.int .i64 0), 1, 8) := by kernel_rfl
    obtain ⟨i0, hi, hz0, hz1, hz2⟩ := info_parts hinfo
    have hinfo2 : (Try.prog.info? 37).map (fun i => (i.zero, i.size, i.bytes)) = some (some (.agg #[.string ⟨#[]⟩, .int .u64 0, .int .i64 0]), 3, 32) := by kernel_rfl
    obtain ⟨j0, hj, hy0, hy1, hy2⟩ := info_parts hinfo2
    have hc6 := hv6.cell
    have c9 : (((pre.length + 1 : Nat) : Int) == -1) = false := by simp; omega
    have c9' : (((pre.length : Int) + 1) == -1) = false := by simp; omega
    clear hlt hbx hinfo hinfo2 hcmp
    gi_wp2_with (first | (gi_at_builtin; refine wpListIn_append_own _ rfl _ _ 28 rfl w3.heap.size 3 i0 _ 1 8 Try.underlying28 hi hz0 hz1 hz2 rfl (by decide) _ _ _ rfl (hrow6.alloc _) ⟨W.heap.size, 0, none⟩ 1 1 [.int .i64 (xz : Int)] rfl rfl (cells1_new _ _ _) (by simp [Value.oneCell']) (by unfold maxLen; omega) (by omega) (by rw [World.size_alloc]; omega) ?_; intro v6' W1 hown6 hgrow _; obtain ⟨g6, cap6, rfl⟩ := ownsRow_succ hown6; have hv61 := (hv6.alloc _).kept hgrow (hv6.not_row (by decide) hrow6); have hv71 := (hv7.alloc _).kept hgrow (hv7.not_row (by decide) hrow6); have hm1 := (hm.alloc _).kept hgrow (fun e => by have := hoff6 _ e.symm; omega); have hr71 := (hrow7.alloc _).kept hgrow (own_apart hrow7 hrow6 (by decide)); have hb1 : W1.heap[Bx]? = _ := (hgrow.block Bx (by rw [World.size_alloc]; exact Nat.lt_succ_of_lt (blk_lt hbx')) hne6).trans ((Below.heap_alloc _ _ _ (blk_lt hbx')).trans hbx'); have hw1 : W.heap.size + 1 ≤ W1.heap.size := (by have := hgrow.size; rwa [World.size_alloc] at this); have hk1 := hv61.cell; have hk2 := hv61.frozen; have hv62 := hv61.set (.slice (some ⟨g6, 0, none⟩) (pre.length + 1) cap6); have hv72 := hv71.other (show w.heap.size + 2 ≠ w.heap.size + 1 by omega) (.slice (some ⟨g6, 0, none⟩) (pre.length + 1) cap6); have hm2 := hm1.other (show w.heap.size ≠ w.heap.size + 1 by omega) (.slice (some ⟨g6, 0, none⟩) (pre.length + 1) cap6); have hr72 := hr71.kept (grownBy_setCell' W1 (w.heap.size + 1) (.slice (some ⟨g6, 0, none⟩) (pre.length + 1) cap6)) (.inr (fun e => by have := hoff7 _ e; omega)); have hr62 := hown6.kept (grownBy_setCell' W1 (w.heap.size + 1) (.slice (some ⟨g6, 0, none⟩) (pre.length + 1) cap6)) (.inr (fun e => by have := own_off hown6 _ e; omega)); have hb2 := (Below.heap_setCell W1 ⟨w.heap.size + 1, 0, none⟩ (.slice (some ⟨g6, 0, none⟩) (pre.length + 1) cap6) Bx (by show Bx ≠ w.heap.size + 1; omega)).trans hb1; have hsz2 : (W1.setCell ⟨w.heap.size + 1, 0, none⟩ (.slice (some ⟨g6, 0, none⟩) (pre.length + 1) cap6)).heap.size = W1.heap.size := (by simp); have hk3 := hv72.cell; have hk3b := hv71.cell; have hk3c := hm1.cell; have f0 : W1.cell? ⟨Bx, 0, none⟩ = some (.string ks) := (by simp [World.cell?, hb1]); have f1 : W1.cell? ⟨Bx, 1, none⟩ = some (.int .u64 kn) := (by simp [World.cell?, hb1]); have f2 : W1.cell? ⟨Bx, 2, none⟩ = some (.int .i64 kd) := (by simp [World.cell?, hb1]); have hBxne : Bx ≠ w.heap.size + 1 := (by omega); have e0 : (W1.setCell ⟨w.heap.size + 1, 0, none⟩ (.slice (some ⟨g6, 0, none⟩) (pre.length + 1) cap6)).cell? ⟨Bx, 0, none⟩ = some (.string ks) := (by simp [World.cell?, hb2]); have e1 : (W1.setCell ⟨w.heap.size + 1, 0, none⟩ (.slice (some ⟨g6, 0, none⟩) (pre.length + 1) cap6)).cell? ⟨Bx, 1, none⟩ = some (.int .u64 kn) := (by simp [World.cell?, hb2]); have e2 : (W1.setCell ⟨w.heap.size + 1, 0, none⟩ (.slice (some ⟨g6, 0, none⟩) (pre.length + 1) cap6)).cell? ⟨Bx, 2, none⟩ = some (.int .i64 kd) := (by simp [World.cell?, hb2]); have hw2 := (KeepsWalks.setCell W1 ⟨w.heap.size + 1, 0, none⟩ (.slice (some ⟨g6, 0, none⟩) (pre.length + 1) cap6)).size) | (gi_at_builtin; refine wpListIn_append_own _ rfl _ _ 60 rfl w3.heap.size 37 j0 _ 3 32 Try.underlying60 hj hy0 hy1 hy2 rfl (by decide) _ _ _ rfl (hr72.alloc _) ⟨W1.heap.size, 0, none⟩ 1 1 [.string ks, .int .u64 kn, .int .i64 kd] rfl rfl (by have := cells3_new (W1.setCell ⟨w.heap.size + 1, 0, none⟩ (.slice (some ⟨g6, 0, none⟩) (pre.length + 1) cap6)) (.string ks) (.int .u64 kn) (.int .i64 kd) 37; rw [hsz2] at this; exact this) (by simp [Value.oneCell']) (by unfold maxLen; omega) (by omega) (by rw [World.size_alloc]; omega) ?_; intro v7' X1 hown7 hgrow2 _; obtain ⟨g7, cap7, rfl⟩ := ownsRow_succ hown7; have hv63 := (hv62.alloc _).kept hgrow2 (hv62.not_row (by decide) hr72); have hv73 := (hv72.alloc _).kept hgrow2 (hv72.not_row (by decide) hr72); have hm3 := (hm2.alloc _).kept hgrow2 (fun e => by have := own_off hr72 _ e.symm; omega); have hr63 := (hr62.alloc _).kept hgrow2 (own_apart hr62 hr72 (by decide)); have hw3 : (W1.setCell ⟨w.heap.size + 1, 0, none⟩ (.slice (some ⟨g6, 0, none⟩) (pre.length + 1) cap6)).heap.size + 1 ≤ X1.heap.size := (by have := hgrow2.size; rwa [World.size_alloc] at this); have hk4 := hv73.cell; have hk5 := hv73.frozen; have hv64 := hv63.other (show w.heap.size + 1 ≠ w.heap.size + 2 by omega) (.slice (some ⟨g7, 0, none⟩) (pre.length + 1) cap7); have hv74 := hv73.set (.slice (some ⟨g7, 0, none⟩) (pre.length + 1) cap7); have hm4 := hm3.other (show w.heap.size ≠ w.heap.size + 2 by omega) (.slice (some ⟨g7, 0, none⟩) (pre.length + 1) cap7); have hr74 := hown7.kept (grownBy_setCell' X1 (w.heap.size + 2) (.slice (some ⟨g7, 0, none⟩) (pre.length + 1) cap7)) (.inr (fun e => by have := own_off hown7 _ e; omega)); have hr64 := hr63.kept (grownBy_setCell' X1 (w.heap.size + 2) (.slice (some ⟨g7, 0, none⟩) (pre.length + 1) cap7)) (.inr (fun e => by have := own_off hr63 _ e; omega)); have hk6 := hv64.cell; have hk7 := hm4.cell; have hk6b := hv63.cell; have hk7b := hm3.cell; have hw4 := (KeepsWalks.setCell X1 ⟨w.heap.size + 2, 0, none⟩ (.slice (some ⟨g7, 0, none⟩) (pre.length + 1) cap7)).size))
    refine ⟨KeepsOthers.from ((((((KeepsOthers.alloc W _).trans (KeepsOthers.of_grownBy hgrow fun j o ej hj => hcl6 j o ej hj)).trans (KeepsOthers.setCell _ _ _)).trans (KeepsOthers.alloc _ _)).trans (KeepsOthers.of_grownBy hgrow2 fun j o ej hj => own_cells (hr72.alloc _) j o ej hj)).trans (KeepsOthers.setCell _ _ _)) _, ⟨by omega, fun k hk hS => ?_⟩, ⟨_, hv64, ?_⟩, ⟨_, hv74, ?_⟩, hm4, ?_, by omega⟩
    · have h1 : k ≠ w.heap.size + 1 := fun e => hS (.inl e)
      have h2 : k ≠ w.heap.size + 2 := fun e => hS (.inr e)
      exact (Below.heap_setCell X1 ⟨w.heap.size + 2, 0, none⟩ _ k h2).trans ((hgrow2.block k (by rw [World.size_alloc]; omega) (fun e => by have := own_off hr72 k e.symm; omega)).trans ((Below.heap_alloc _ _ k (by omega)).trans ((Below.heap_setCell W1 ⟨w.heap.size + 1, 0, none⟩ _ k h1).trans ((hgrow.block k (by rw [World.size_alloc]; omega) (fun e => by have := hoff6 k e.symm; omega)).trans (Below.heap_alloc W _ k (by omega))))))
    · rw [List.length_append, List.map_append]
      exact hr64
    · rw [List.length_append, List.flatMap_append]
      exact hr74
    · exact hbw.trans (((((((Below.refl w.heap.size W).alloc (by omega) _).grown hgrow (by rw [World.size_alloc]; omega) (fun j ej => by have := hoff6 j ej; omega)).setCell (p := ⟨w.heap.size + 1, 0, none⟩) (Nat.le_succ _) _).alloc (by omega) _).grown hgrow2 (by rw [World.size_alloc]; omega) (fun j ej => by have := own_off hr72 j ej; omega)).setCell (p := ⟨w.heap.size + 2, 0, none⟩) (by show w.heap.size ≤ w.heap.size + 2; omega) _)
  case done =>
    rintro D ys X hD rfl ⟨⟨v6, hv6, hrow6⟩, ⟨v7, hv7, hrow7⟩, hm, hbw, hws⟩ hK
    have q1 := hv6.cell
    have q2 := hv7.cell
    have HB := Aside0.mk hbw
    have HKD := Aside0.mk hK
    have HV6 := Aside0.mk hrow6
    have HV7 := Aside0.mk hrow7
    clear hbw hK hrow6 hrow7 hv6 hv7 hm hcmp
    gi_wp2
    refine (wpIn_wide (n := 3)).2 ?_
    go_wp2
    go_quiet (fail)
    all_goals gi_wp2
    have hk2 : (X.drewN nq).heap[D]? = some (.deferred (some [])) := ((pw_below_drewN (Below.refl _ _) nq).block D (blk_lt HKD.out)).trans HKD.out
    refine ⟨by simp, .inl ⟨_, _, rfl, run_takeDeferred hk2, ?_⟩⟩
    have hsz := HB3.out.size
    refine ⟨.tuple #[v6, v7], (by simp [results, Try.results31, go_sem]), v6, v7, rfl, ?_, ?_, ?_⟩
    · have key : ∀ o', Kd.R (Kd.int .i64) 3 ((X.drewN nq).putObj D o') w.heap.size (fun _ => True) v6 (ordI S) := by
        intro o'
        have d := pw_below_drewN (Below.refl X.heap.size X) nq
        have r := row_own X (X.drewN nq) none HV6.out ⟨d.os, d.tape, d.output, d.size, fun k hk _ => d.block k hk⟩ (fun r e => by cases e)
        have r2 := ownsRow_putObj r o' hk2 rfl
        have := R_of_ints (base := w.heap.size) ⟨r2.1, r2.2.imp (fun h => h) (fun ⟨g', cap, cur, e, hb', h⟩ => ⟨g', cap, cur, e, by omega, h⟩)⟩
        rw [show (elems S).map (fun x => (x.1 : Int)) = ordI S by unfold elems ordI; rw [List.map_map]; rfl] at this
        exact this
      exact key _
    · have key : ∀ o', Kd.R k37 37 ((X.drewN nq).putObj D o') w.heap.size (fun _ => True) v7 ((S.order.map fun z => s37 (S.key z))) := by
        intro o'
        have d := pw_below_drewN (Below.refl X.heap.size X) nq
        have r := row_own X (X.drewN nq) none HV7.out ⟨d.os, d.tape, d.output, d.size, fun k hk _ => d.block k hk⟩ (fun r e => by cases e)
        have r2 := ownsRow_putObj r o' hk2 rfl
        have := R_of_keys (base := w.heap.size) ⟨r2.1, r2.2.imp (fun h => h) (fun ⟨g', cap, cur, e, hb', h⟩ => ⟨g', cap, cur, e, by omega, h⟩)⟩
        rw [show (elems S).map (fun x => s37 x.2) = S.order.map (fun z => s37 (S.key z)) by unfold elems; rw [List.map_map]; rfl] at this
        exact this
      exact key _
    · exact (pw_below_drewN HB.out nq).grown (grownBy_putObj' _ D _) (pw_below_drewN HB.out nq).size (fun k e => by cases e; omega)
  case stop =>
    rintro D c pre W _ _ h _
    exact h.elim

end Go.Proofs.Ytehfcafmdnfamaa.G

/- Contracts typed by hand: a region that draws its order and only reads, in a round of a range over a function -/
namespace Go.Proofs.Ytehfcafmdnfamaa.G
open Go.RowKit Go.Proofs.YtehfcafmdnfamaaW.PrintWords Go.Proofs.YtehfcafmdnfamaaW.PrintLast Go.Proofs.YtehfcafmdnfamaaW.PrintMore
attribute [local go_sem] max2_int min2_int max_two min_two max_three min_three max_four min_four
set_option linter.unusedVariables false
set_option linter.unusedSimpArgs false

/-! a region that draws its order and only reads, in a round of a range over a function -/
theorem op_round {F : Fence} {n : Nat} {P : Program} {o : Oper} {a : Act} {w : World} {next : Act → World → Prop} {Q : Exit → Act → World → Prop} (r : Nat) (hro : F.round = none) (hd : ∀ c, o.op ≠ .defer c)
    (h : o.wpIn F n P a w next Q) : o.wpIn (F.inRound r) n P a w next Q := by
  have h2 := h.2
  rw [hro] at h2
  refine ⟨h.1, ?_⟩
  have e : o.semAt (F.inRound r).round a.eval = o.semAt none a.eval := by
    show o.semAt (some r) a.eval = o.semAt none a.eval
    rw [Oper.semAt_some r _ _ hd]
    unfold Oper.semAt
    cases ho : o.op <;> first | rfl | exact absurd ho (hd _)
  rw [e]
  exact h2
theorem any_round {F : Fence} {n : Nat} {P : Program} {md : Region.Mode} {ops : Array Oper} {Q : Exit → Act → World → Prop} (r : Nat) (hro : F.round = none) (hd : ∀ (i : Nat) (o : Oper), ops[i]? = some o → ∀ c, o.op ≠ .defer c) :
    ∀ (fuel : Nat) (listed : Array Bool) (a : Act) (w : World), wpAnyIn F n P md ops Q fuel listed a w → wpAnyIn (F.inRound r) n P md ops Q fuel listed a w
  | 0, _, _, _, h => h
  | fuel + 1, listed, a, w, h => by
    refine ⟨h.1, fun i hi => ?_⟩
    have hx := h.2 i hi
    unfold wpOpIn at hx ⊢
    cases ho : ops[i]? with
    | none =>
      rw [ho] at hx
      exact any_round r hro hd fuel _ a w hx
    | some o =>
      rw [ho] at hx
      dsimp only at hx ⊢
      by_cases hw : Region.wanted o (yielded ops a.tmps) = true
      · rw [if_pos hw] at hx ⊢
        exact Oper.wpIn_mono (fun a w q => any_round r hro hd fuel _ a w q) (op_round r hro (hd i o ho) hx)
      · rw [if_neg hw] at hx ⊢
        exact ⟨hx.1, any_round r hro hd fuel _ _ w hx.2⟩
def plainOps (l : List Oper) : Bool := l.all fun o => match o.op with | .defer _ => false | _ => true
theorem plainOps_spec {l : List Oper} (h : plainOps l = true) (i : Nat) (o : Oper) (ho : l.toArray[i]? = some o) : ∀ c, o.op ≠ .defer c := by
  intro c hc
  have hm : o ∈ l := by
    rw [List.getElem?_toArray] at ho
    exact List.mem_of_getElem? ho
  have := List.all_eq_true.1 h o hm
  rw [hc] at this
  simp at this
theorem region_quiet_round {F : Fence} {n : Nat} {P : Program} {r id : Nat} {Q : Exit → Act → World → Prop} {a : Act} {w : World} {l : List Oper} (hro : F.round = none) (hm : P.follows .mixedOrders = true) (hB : Region.lexB .any l.toArray = true) (hd : plainOps l = true)
    (h : wpQuietIn F n P l.toArray (fun w' => ∃ n, w' = w.drewN n) (fun a' => ∀ w', (∃ n, w' = w.drewN n) → Q .normal a' w') l a) : (Code.region id l.toArray true).wpIn (F.inRound r) n P Q a w := by
  simp only [Region.lexB, Bool.and_eq_true] at hB
  refine wpIn_region_any hm (any_round r hro (plainOps_spec hd) _ _ _ _ (wpAnyIn_of_quiet (C := fun w' => ∃ n, w' = w.drewN n) (Q := fun a' => ∀ w', (∃ n, w' = w.drewN n) → Q .normal a' w') hro (fun _ w' hw' h => h w' hw') _ _ _ _ ⟨1, rfl⟩ ?_))
  have := wpAnyQIn_lex (F := F) (n := n) (C := fun w' => ∃ n, w' = w.drewN n) (md := .any) hB.1 l 0 (Array.replicate l.toArray.size false) a (by simp) (by simpa using hB.2) h
  simpa using this

end Go.Proofs.Ytehfcafmdnfamaa.G

/- Contracts typed by hand: a range over an iterator whose rounds are told what has come so far, and keep what a relation of worlds says; a drawn region (with calls) in a round -/
namespace Go.Proofs.Ytehfcafmdnfamaa.G
open Go.RowKit Go.Proofs.YtehfcafmdnfamaaW.PrintWords Go.Proofs.YtehfcafmdnfamaaW.PrintLast Go.Proofs.YtehfcafmdnfamaaW.PrintMore
attribute [local go_sem] max2_int min2_int max_two min_two max_three min_three max_four min_four
set_option linter.unusedVariables false
set_option linter.unusedSimpArgs false

/-! a range over an iterator whose rounds are told what has come so far, and keep what a relation of worlds says; a drawn region (with calls) in a round -/
open Go.Shelf
/-- an iterator's contract: a round is told that what has come so far may come -/
def SeqKnown {α : Type} (F : Fence) (n : Nat) (P : Program) (g : Nat) (lb : Array Value) (encs : α → Array Value) (Kp : World → World → Prop) (S Sp : List α → Prop) (w : World) : Prop :=
  ∀ (l : Nat) (J Jx : List α → World → Prop) (W : World), Below w.heap.size w W →
    (∀ pre x W1, J pre W1 → Sp (pre ++ [x]) → YieldAt F (n - 1) P l (encs x) W1 fun e W' =>
      (e = .returned (.bool true) ∧ J (pre ++ [x]) W' ∧ Kp W1 W') ∨ (e = .returned (.bool false) ∧ Jx (pre ++ [x]) W')) →
    J [] W →
    CallsIn F n P g (#[.func (.yield l) #[] #[]] ++ lb) W fun e W' => (∃ v, e = .returned v) ∧ ((∃ xs, S xs ∧ J xs W') ∨ (∃ pre, Sp pre ∧ Jx pre W'))
/-- how a round's body may be left -/
def knownPost {α : Type} (N : Nat) (Kp : World → World → Prop) (I : List α → World → Prop) (Ix : Code → List α → World → Prop) (xs : List α) (W : World) : Exit → Act → World → Prop
  | .normal, _, W' => KeepsFrom N W W' ∧ Kp W W' ∧ I xs W'
  | .ret, _, W' => KeepsFrom N W W' ∧ Ix .ret xs W'
  | .exit id, _, W' => KeepsFrom N W W' ∧ Ix (.exit id) xs W'
  | .goto t, _, W' => KeepsFrom N W W' ∧ Ix (.goto t) xs W'
  | .panic _, _, _ => False
  | .outgrown, _, _ => False
def recK (fn : FuncId) (a : Act) (ps : Array Tmp) (assign body : Code) (D : Nat) (st : LoopState) (pe : Option Code) : Loop := { state := st, pending := pe, fn := fn, tmps := a.tmps, params := ps, assign := assign, body := body, defers := D }
theorem known_round {α : Type} {F : Fence} {n : Nat} {P : Program} {ps : Array Tmp} {assign body : Code} {a : Act} {N : Nat} {fn : FuncId} (hfn : F.fn fn) {encs : α → Array Value} {Kp : World → World → Prop} (hKt : ∀ {A B C : World}, Kp A B → Kp B C → Kp A C) (hKl : ∀ (W : World) (r r' : Loop), W.heap[N + 1]? = some (.loop r) → Kp W (W.putObj (N + 1) (.loop r'))) (hps : ∀ x, (encs x).size = ps.size)
    {I : List α → World → Prop} {Ix : Code → List α → World → Prop} (hI : OwnFrom N I) (hIx : ∀ c, OwnFrom N (Ix c)) {Ax : α → Act → World → Prop} (hAx : ∀ x a', OwnFrom N (fun (_ : Unit) W => Ax x a' W))
    {pre : List α} {x : α} {W : World} (hi : I pre W) (hl : W.heap[N + 1]? = some (.loop (recK fn a ps assign body N .ready none))) (hk : W.heap[N]? = some (.deferred (some [])))
    (hassign : ∀ (K : Act → World → Prop), (∀ a' W', KeepsFrom N W W' → Kp W W' → I pre W' → Ax x a' W' → K a' W') →
      assign.wpIn (F.inRound (N + 1)) n P (Exit.then K (fun _ _ _ => False)) { tmps := (ps.zip (encs x)).foldl (fun t (p, v) => t.setIfInBounds p v) a.tmps, defers := [] } W)
    (hbody : ∀ (a' : Act) (X : World), N + 2 ≤ X.heap.size → I pre X → Ax x a' X → body.wpIn (F.inRound (N + 1)) n P (knownPost N Kp I Ix (pre ++ [x]) X) a' X) :
    YieldAt F n P (N + 1) (encs x) W fun e W' =>
      (e = .returned (.bool true) ∧ (I (pre ++ [x]) W' ∧ W'.heap[N + 1]? = some (.loop (recK fn a ps assign body N .ready none)) ∧ W'.heap[N]? = some (.deferred (some []))) ∧ Kp W W') ∨
       (e = .returned (.bool false) ∧ (∃ c, Ix c (pre ++ [x]) W' ∧ W'.heap[N + 1]? = some (.loop (recK fn a ps assign body N .done (some c))) ∧ W'.heap[N]? = some (.deferred (some [])))) := by
  refine ⟨fn, _, assign, body, run_yield (args := encs x) hl (hps x), roundIn_of_wpIn hfn (hassign _ ?_)⟩
  intro a1 X hlv hkp hi1 hx1
  have hlX := hlv.same _ _ (by omega) hl rfl
  have hkX := hlv.same _ _ (Nat.le_refl _) hk rfl
  have ltX : N + 1 < X.heap.size := (Array.getElem?_eq_some_iff.1 hlX).1
  refine ⟨_, run_beginRound hlX rfl, ?_⟩
  obtain ⟨Y, hY⟩ : ∃ Y, X.putObj (N + 1) (.loop { recK fn a ps assign body N .ready none with state := .busy }) = Y := ⟨_, rfl⟩
  have lY : Y.heap[N + 1]? = some (.loop { recK fn a ps assign body N .ready none with state := .busy }) := by rw [← hY]; exact World.putObj_heap_same ltX
  have kY : Y.heap[N]? = some (.deferred (some [])) := by rw [← hY]; exact (World.putObj_heap_other (by omega)).trans hkX
  have iY : I pre Y := by rw [← hY]; exact hI.putObj _ hi1 (by omega) hlX rfl
  have xY : Ax x a1 Y := by rw [← hY]; exact (hAx x a1).putObj (s := ()) _ hx1 (by omega) hlX rfl
  have pY : Kp W Y := hKt hkp (by rw [← hY]; exact hKl X _ _ hlX)
  rw [hY]
  refine wpIn_mono (hbody a1 Y (by have := (Array.getElem?_eq_some_iff.1 lY).1; omega) iY xY) ?_
  have fin : ∀ (jump : Option Code) (Z : World), KeepsFrom N Y Z → ∃ Z', (Instr.endRound (N + 1) jump).run P Z = .ok (.bool jump.isNone) Z' ∧ (Kp Y Z → Kp W Z') ∧
      Z'.heap[N + 1]? = some (.loop (recK fn a ps assign body N (if jump.isNone then .ready else .done) jump)) ∧ Z'.heap[N]? = some (.deferred (some [])) ∧ (∀ xs, I xs Z → I xs Z') ∧ (∀ c xs, Ix c xs Z → Ix c xs Z') := by
    intro jump Z hz
    have lZ := hz.same _ _ (by omega) lY rfl
    refine ⟨_, run_endRound jump lZ, fun h => hKt pY (hKt h (hKl Z _ _ lZ)), World.putObj_heap_same (Array.getElem?_eq_some_iff.1 lZ).1, (World.putObj_heap_other (by omega)).trans (hz.same _ _ (Nat.le_refl _) kY rfl), fun xs h => hI.putObj _ h (by omega) lZ rfl, fun c xs h => (hIx c).putObj _ h (by omega) lZ rfl⟩
  rintro e a3 Z hp
  cases e with
  | normal => obtain ⟨Z', h1, h2, h3, h4, h5, _⟩ := fin none Z hp.1; exact ⟨_, _, h1, .inl ⟨rfl, ⟨h5 _ hp.2.2, h3, h4⟩, h2 hp.2.1⟩⟩
  | ret => obtain ⟨Z', h1, h2, h3, h4, _, h6⟩ := fin (some .ret) Z hp.1; exact ⟨_, _, h1, .inr ⟨rfl, .ret, h6 _ _ hp.2, h3, h4⟩⟩
  | exit id => obtain ⟨Z', h1, h2, h3, h4, _, h6⟩ := fin (some (.exit id)) Z hp.1; exact ⟨_, _, h1, .inr ⟨rfl, .exit id, h6 _ _ hp.2, h3, h4⟩⟩
  | goto t => obtain ⟨Z', h1, h2, h3, h4, _, h6⟩ := fin (some (.goto t)) Z hp.1; exact ⟨_, _, h1, .inr ⟨rfl, .goto t, h6 _ _ hp.2, h3, h4⟩⟩
  | panic ch => exact hp.elim
  | outgrown => exact hp.elim
/-- the statement `for .. := range seq`, over such a contract -/
theorem known_range {α : Type} {F : Fence} {n : Nat} {P : Program} {g : Operand} {ps : Array Tmp} {assign body : Code} {Q : Exit → Act → World → Prop} {a : Act} {w : World}
    (hro : F.round = none) (h1 : 1 ≤ n) {gf : Nat} {lb : Array Value} (hg : a.eval g = .func (.func gf) #[] lb) (hFg : F.fn gf) (eg : ∀ args w, (callFunc gf args).run P w = .ok (.enter gf args) w)
    {encs : α → Array Value} {Kp : World → World → Prop} {S Sp : List α → Prop} {w0 : World} (hseq : SeqKnown F (n - 1) P gf lb encs Kp S Sp w0) (hKt : ∀ {A B C : World}, Kp A B → Kp B C → Kp A C) (hKl : ∀ (W : World) (r r' : Loop), W.heap[w.heap.size + 1]? = some (.loop r) → Kp W (W.putObj (w.heap.size + 1) (.loop r'))) (hb0 : Below w0.heap.size w0 w) (hps : ∀ x, (encs x).size = ps.size)
    (I : List α → World → Prop) (Ix : Code → List α → World → Prop) (hI : OwnFrom w.heap.size I) (hIx : ∀ c, OwnFrom w.heap.size (Ix c)) (h0 : I [] w) (Ax : α → Act → World → Prop) (hAx : ∀ x a', OwnFrom w.heap.size (fun (_ : Unit) W => Ax x a' W))
    (hassign : ∀ (pre : List α) (x : α) (W : World) (K : Act → World → Prop), I pre W → (∀ a' W', KeepsFrom w.heap.size W W' → Kp W W' → I pre W' → Ax x a' W' → K a' W') →
      assign.wpIn (F.inRound (w.heap.size + 1)) (n - 1 - 1) P (Exit.then K (fun _ _ _ => False)) { tmps := (ps.zip (encs x)).foldl (fun t (p, v) => t.setIfInBounds p v) a.tmps, defers := [] } W)
    (hbody : ∀ (pre : List α) (x : α) (a' : Act) (W : World), w.heap.size + 2 ≤ W.heap.size → I pre W → Ax x a' W → Sp (pre ++ [x]) → body.wpIn (F.inRound (w.heap.size + 1)) (n - 1 - 1) P (knownPost w.heap.size Kp I Ix (pre ++ [x]) W) a' W)
    (hdone : ∀ (xs : List α) (W : World), S xs → I xs W → W.heap[w.heap.size]? = some (.deferred (some [])) → Q .normal { a with defers := { target := .collected w.heap.size, args := #[] } :: a.defers } W)
    (hstop : ∀ (c : Code) (pre : List α) (W : World), Sp pre → Ix c pre W → W.heap[w.heap.size]? = some (.deferred (some [])) → c.wpIn F n P Q { a with defers := { target := .collected w.heap.size, args := #[] } :: a.defers } W) :
    (Code.rangeFunc g ps assign body).wpIn F n P Q a w := by
  refine wpIn_rangeFunc ?_
  intro fn hfn
  rw [hro]
  obtain ⟨W1, hW1⟩ : ∃ W1, (w.alloc (.deferred (some []))).alloc (.loop (recK fn a ps assign body w.heap.size .ready none)) = W1 := ⟨_, rfl⟩
  have sz : W1.heap.size = w.heap.size + 2 := by rw [← hW1, World.size_alloc, World.size_alloc]
  have hL : W1.heap[w.heap.size + 1]? = some (.loop (recK fn a ps assign body w.heap.size .ready none)) := by
    have := World.alloc_heap_new (w.alloc (.deferred (some []))) (.loop (recK fn a ps assign body w.heap.size .ready none))
    rw [World.size_alloc, hW1] at this
    exact this
  have hK : W1.heap[w.heap.size]? = some (.deferred (some [])) := by
    rw [← hW1]
    exact (Below.heap_alloc _ _ _ (by rw [World.size_alloc]; omega)).trans (World.alloc_heap_new w _)
  have hI1 : I [] W1 := by rw [← hW1]; exact hI.alloc _ (hI.alloc _ h0)
  have hb1 : Below w0.heap.size w0 W1 := by
    rw [← hW1]
    exact hb0.trans ((below_alloc (below_alloc (Below.refl w.heap.size w) _) _).mono hb0.size)
  refine ⟨w.heap.size + 1, [{ target := .collected w.heap.size, args := #[] }], W1, { target := .fn (.func gf) lb, args := #[.func (.yield (w.heap.size + 1)) #[] #[]] }, W1, gf, #[.func (.yield (w.heap.size + 1)) #[] #[]] ++ lb, W1, ?_, ?_, ?_, ?_, fun _ => h1, ?_⟩
  · rw [← hW1]; exact run_enterLoop_outer _ _ _ _ _
  · simp only [resolve, hg]; simp [go_sem]
  · intro f' hf'; simp [Target.leads] at hf'; subst hf'; exact hFg
  · simp [invoke, go_sem, eg]
  · refine (hseq (w.heap.size + 1)
      (fun pre W => I pre W ∧ W.heap[w.heap.size + 1]? = some (.loop (recK fn a ps assign body w.heap.size .ready none)) ∧ W.heap[w.heap.size]? = some (.deferred (some [])))
      (fun pre W => ∃ c, Ix c pre W ∧ W.heap[w.heap.size + 1]? = some (.loop (recK fn a ps assign body w.heap.size .done (some c))) ∧ W.heap[w.heap.size]? = some (.deferred (some [])))
      W1 hb1 ?_ ⟨hI1, hL, hK⟩).mono ?_
    · rintro pre x W ⟨hi, hl, hk⟩ hsp
      exact known_round (Kp := Kp) hfn (fun h k => hKt h k) hKl hps hI hIx hAx hi hl hk (fun K hK => hassign pre x W K hi hK) (fun a' X hX h2 h3 => hbody pre x a' X hX h2 h3 hsp)
    · rintro e Z ⟨⟨v, rfl⟩, (⟨xs, hS, hi, hl, hk⟩ | ⟨pre, hSp, c, hi, hl, hk⟩)⟩
      · exact ⟨none, _, run_endLoop hl (by simp [recK]), hdone xs _ hS (hI.putObj _ hi (by omega) hl rfl) ((World.putObj_heap_other (by omega)).trans hk)⟩
      · exact ⟨some c, _, run_endLoop hl (by simp [recK]), hstop c pre _ hSp ((hIx c).putObj _ hi (by omega) hl rfl) ((World.putObj_heap_other (by omega)).trans hk)⟩
/-! a drawn region in a round, by its walk outside of one -/
theorem op_wide {n : Nat} {P : Program} {o : Oper} {a : Act} {w : World} {K : Act → World → Prop} {Q : Exit → Act → World → Prop} (h : o.wp P a w K Q) : o.wpIn Fence.wide n P a w K Q := by
  refine ⟨fun _ _ => trivial, ?_⟩
  unfold Oper.wp at h
  show o.uponIn Fence.wide n P a K Q ((execOp a.eval o).run P w)
  generalize (execOp a.eval o).run P w = r at h ⊢
  cases r with
  | ok x w' =>
    cases x with
    | value v => exact h
    | skip => exact h
    | defer d => exact h
    | enter f args => exact ⟨(fun e => by cases e), callsIn_wide.2 h⟩
    | row r args =>
      refine ⟨(fun e => by cases e), ?_⟩
      intro c cs _
      obtain ⟨v, w'', q, s⟩ := h c cs
      exact ⟨v, w'', q, stepsIn_wide.2 s⟩
    | _ => exact h.elim
  | halt x w' => cases x <;> first | exact h | exact h.elim
theorem any_round_wp {P : Program} {md : Region.Mode} {ops : Array Oper} {Q : Exit → Act → World → Prop} (n r : Nat) (hd : ∀ (i : Nat) (o : Oper), ops[i]? = some o → ∀ c, o.op ≠ .defer c) (hout : ¬ LetsOut Q) :
    ∀ (fuel : Nat) (listed : Array Bool) (a : Act) (w : World), wpAny P md ops Q fuel listed a w → wpAnyIn (Fence.wide.inRound r) n P md ops Q fuel listed a w
  | 0, _, _, _, h => h
  | fuel + 1, listed, a, w, h => by
    refine ⟨h.1, fun i hi => ?_⟩
    have hx := h.2 i hi
    unfold wpOp at hx
    unfold wpOpIn
    cases ho : ops[i]? with
    | none =>
      rw [ho] at hx
      exact any_round_wp n r hd hout fuel _ a w hx
    | some o =>
      rw [ho] at hx
      dsimp only at hx ⊢
      by_cases hw : Region.wanted o (yielded ops a.tmps) = true
      · rw [if_pos hw] at hx ⊢
        have hx2 := hx.resolve_right (fun e => hout e.2)
        exact Oper.wpIn_mono (fun a w q => any_round_wp n r hd hout fuel _ a w q) (op_round r rfl (hd i o ho) (op_wide hx2))
      · rw [if_neg hw] at hx ⊢
        exact ⟨fun _ _ => trivial, any_round_wp n r hd hout fuel _ _ w hx⟩
theorem startR_ {P : Program} {ops : Array Oper} {Q : Exit → Act → World → Prop} {S : World → Prop} {ds : List Nat} {id n m r : Nat} {a : Act} {w : World} (l : Array Bool) (hm : P.follows .mixedOrders = true) (hn : ops.size = n) (hl : Array.replicate n false = l) (hS : S w.drew)
    (h : S w.drew → wpAnyLast P .any ops Q S ds n l a w.drew) (hd : plainOps ops.toList = true) (hout : ¬ LetsOut Q) : (Code.region id ops true).wpIn (Fence.wide.inRound r) m P Q a w := by
  subst hn
  subst hl
  refine wpIn_region_any hm (any_round_wp m r (fun i o ho => plainOps_spec hd i o (by simpa using ho)) hout _ _ _ _ (wpAny_of_last _ _ _ _ (h hS)))
/-- .. where a round may be left by a break only: both ways out go on alike -/
theorem known_range2 {α : Type} {F : Fence} {n : Nat} {P : Program} {g : Operand} {ps : Array Tmp} {assign body : Code} {Q : Exit → Act → World → Prop} {a : Act} {w : World} (id : Nat)
    (hro : F.round = none) (h1 : 1 ≤ n) {gf : Nat} {lb : Array Value} (hg : a.eval g = .func (.func gf) #[] lb) (hFg : F.fn gf) (eg : ∀ args w, (callFunc gf args).run P w = .ok (.enter gf args) w)
    {encs : α → Array Value} {Kp : World → World → Prop} {S Sp : List α → Prop} {w0 : World} (hseq : SeqKnown F (n - 1) P gf lb encs Kp S Sp w0) (hKt : ∀ {A B C : World}, Kp A B → Kp B C → Kp A C) (hKl : ∀ (W : World) (r r' : Loop), W.heap[w.heap.size + 1]? = some (.loop r) → Kp W (W.putObj (w.heap.size + 1) (.loop r'))) (hb0 : Below w0.heap.size w0 w) (hps : ∀ x, (encs x).size = ps.size)
    (I Ix : List α → World → Prop) (hI : OwnFrom w.heap.size I) (hIx : OwnFrom w.heap.size Ix) (h0 : I [] w) (Ax : α → Act → World → Prop) (hAx : ∀ x a', OwnFrom w.heap.size (fun (_ : Unit) W => Ax x a' W))
    (hassign : ∀ (pre : List α) (x : α) (W : World) (K : Act → World → Prop), I pre W → (∀ a' W', KeepsFrom w.heap.size W W' → Kp W W' → I pre W' → Ax x a' W' → K a' W') →
      assign.wpIn (F.inRound (w.heap.size + 1)) (n - 1 - 1) P (Exit.then K (fun _ _ _ => False)) { tmps := (ps.zip (encs x)).foldl (fun t (p, v) => t.setIfInBounds p v) a.tmps, defers := [] } W)
    (hbody : ∀ (pre : List α) (x : α) (a' : Act) (W : World), w.heap.size + 2 ≤ W.heap.size → I pre W → Ax x a' W → Sp (pre ++ [x]) → body.wpIn (F.inRound (w.heap.size + 1)) (n - 1 - 1) P (knownPost w.heap.size Kp I (fun c xs W' => c = .exit id ∧ Ix xs W') (pre ++ [x]) W) a' W)
    (hend : ∀ (e : Exit) (W : World), (e = .normal ∨ e = .exit id) → ((∃ xs, S xs ∧ I xs W) ∨ (∃ pre, Sp pre ∧ Ix pre W)) → W.heap[w.heap.size]? = some (.deferred (some [])) → Q e { a with defers := { target := .collected w.heap.size, args := #[] } :: a.defers } W) :
    (Code.rangeFunc g ps assign body).wpIn F n P Q a w := by
  refine known_range hro h1 hg hFg eg hseq (fun h k => hKt h k) hKl hb0 hps I (fun c xs W' => c = .exit id ∧ Ix xs W') hI (fun c s X Y row hs hgr hr => ⟨hs.1, hIx s X Y row hs.2 hgr hr⟩) h0 Ax hAx hassign hbody ?_ ?_
  · intro xs W hS hi hk
    exact hend .normal W (.inl rfl) (.inl ⟨xs, hS, hi⟩) hk
  · rintro c pre W hSp ⟨rfl, hx⟩ hk
    exact wpIn_exit (hend (.exit id) W (.inr rfl) (.inr ⟨pre, hSp, hx⟩) hk)
/-- an end that is no panic -/
def noP (Q : Exit → Act → World → Prop) : Exit → Act → World → Prop
  | .panic _, _, _ => False
  | .normal, a, w => Q .normal a w
  | .ret, a, w => Q .ret a w
  | .exit i, a, w => Q (.exit i) a w
  | .goto t, a, w => Q (.goto t) a w
  | .outgrown, _, _ => False
theorem wpIn_noP {F : Fence} {n : Nat} {P : Program} {c : Code} {Q : Exit → Act → World → Prop} {a : Act} {w : World} (h : c.wpIn F n P (noP Q) a w) : c.wpIn F n P Q a w :=
  wpIn_mono h (fun e a w q => by cases e <;> first | exact q | exact False.elim q)

end Go.Proofs.Ytehfcafmdnfamaa.G

/- Contracts typed by hand: a skiplist in memory: All's iterator, where the rounds may put nodes into the list -/
namespace Go.Proofs.Ytehfcafmdnfamaa.G
open Go.RowKit Go.Proofs.YtehfcafmdnfamaaW.PrintWords Go.Proofs.YtehfcafmdnfamaaW.PrintLast Go.Proofs.YtehfcafmdnfamaaW.PrintMore
attribute [local go_sem] max2_int min2_int max_two min_two max_three min_three max_four min_four
set_option linter.unusedVariables false
set_option linter.unusedSimpArgs false

/-! a skiplist in memory: All's iterator, where the rounds may put nodes into the list -/
open Go.Shelf
attribute [local go_sem] Oper.semAt_some
set_option maxHeartbeats 8000000 in
set_option maxRecDepth 100000 in
theorem all1_inP (l n g base most : Nat) (v : Value) (S : SL Int) (hS : S.Fine ∧ S.nodes.length ≤ 1048576) (Kp : World → World → Prop) (hKt : ∀ {A B C : World}, Kp A B → Kp B C → Kp A C) (J Jx : List (Nat × IK) → World → Prop) (W : World) (hK0 : Kp W W)
    (hread : ∀ W', Kp W W' → ReadAt W' n g base most v S)
    (hY : ∀ pre x W1, J pre W1 → pre ++ [x] <+: elems S → YieldAt Fence.wide 1 Try.prog l (encE x) W1 fun e W' =>
      (e = .returned (.bool true) ∧ J (pre ++ [x]) W' ∧ Kp W1 W') ∨ (e = .returned (.bool false) ∧ Jx (pre ++ [x]) W'))
    (h0 : J [] W) :
    CallsIn Fence.wide 2 Try.prog 45 #[.func (.yield l) #[] #[], .pointer (some ⟨n + 1, 0, none⟩), .pointer (some ⟨n, 0, none⟩)] W fun e W' => (∃ v, e = .returned v) ∧
      ((∃ ys, ys = elems S ∧ J ys W') ∨ (∃ pre, pre <+: elems S ∧ Jx pre W')) := by
  have HREAD := Aside0.mk hread
  have HY := Aside0.mk hY
  have HS := Aside0.mk hS
  have HKT := Aside0.mk @hKt
  have H0 := Aside0.mk h0
  have HK0 := Aside0.mk hK0
  obtain ⟨Ax, cx, hv, hcl, _⟩ := Kd.R_reads (hread W hK0).1.row
  have hq := blk_cell (hread W hK0).1.box 0
  have hol : (ordI S).length = S.order.length := List.length_map _
  rw [hol] at hv
  subst hv
  obtain ⟨m, hm⟩ : ∃ m, S.order.length = m := ⟨_, rfl⟩
  rw [hm] at hq
  have HM := Aside0.mk hm
  have hmb : m ≤ 1048576 := by rw [← hm, hS.1.len]; exact hS.2
  have hq0 : W.cell? ⟨n + 1, 0, none⟩ = some (.slice Ax m cx) := hq
  clear hread hY h0 hK0 hq hcl hol hm hS hKt
  refine callsIn_of_wp Try.func45 rfl trivial ?_ rfl
  simp only [Try.ntmps45, List.size_toArray, List.length_cons, List.length_nil, Nat.reduceAdd, Nat.reduceSub, Array.replicate_succ, Array.replicate_zero, List.push_toArray, List.append_toArray, List.nil_append, List.cons_append]
  gi_wp2_with fail
  gi_loopw [5, 8] (fun _ v8 wr => ∃ (i : Nat), v8 = .int .i64 (i : Int) ∧ i ≤ m ∧ Aside0 (J ((elems S).take i) wr) ∧ Aside0 (Kp W wr)) (fun _ v8 _ => m - (intOf v8).toNat)
  case atStart => exact ⟨0, rfl, by omega, ⟨by rw [List.take_zero]; exact H0.out⟩, HK0⟩
  case round =>
    clear H0 HK0 hq0
    obtain ⟨i, rfl, hi, HJ, HK⟩ := hrel
    by_cases hlt : i < m
    · have b1 : decide ((i : Int) < (m : Int)) = true := decide_eq_true (by omega)
      have hio : i < S.order.length := by rw [HM.out]; exact hlt
      obtain ⟨hA, T, hT, hE⟩ := HREAD.out wr HK.out
      obtain ⟨ob, oc, hob, _⟩ := Kd.R_form hA.row (by unfold ordI; rw [List.length_map]; omega)
      have hol : (ordI S).length = S.order.length := List.length_map _
      have hrow := hA.row
      injection hob with hob1 _ hob2
      subst hob1 hob2
      have r0 := (Kd.R_celln (0 : Int) hrow (i : Int) (by omega) (by rw [HM.out]; omega)).1
      have hrd : rdOf (0 : Int) (ordI S) (i : Int) = ((S.order[i] : Nat) : Int) := by
        unfold rdOf ordI
        simp [hio]
      rw [hrd, Int.toNat_natCast] at r0
      have hsn := elems_at S hio
      have hzm := HS.out.1.mem _ (List.getElem_mem hio)
      have hkey := hE.key _ hzm.1 hzm.2
      have hel := hE.len
      obtain ⟨z, hz⟩ : ∃ z, S.order[i] = z := ⟨_, rfl⟩
      rw [hz] at r0 hsn hzm hkey
      rw [← hkey] at hsn
      have hTl := hT.fine.2.1
      obtain ⟨b, c, ns, t1, _, _, t4, _⟩ := hT.reads
      obtain ⟨k0, k1, k2, _⟩ := t4 z hzm.1 (by omega)
      have q0 : wr.cell? ⟨g, 0, none⟩ = some (.slice (some ⟨b, 0, none⟩) (T.nodes.length + 1) c) := (blk_cell t1 0).trans rfl
      have p0 := blk_cell hA.lst 0
      obtain ⟨N, hN⟩ : ∃ N, T.nodes.length + 1 = N := ⟨_, rfl⟩
      rw [hN] at q0
      have hzN : z < N := by omega
      have hNb : N ≤ 1048577 := by omega
      obtain ⟨⟨ks, kn, kd⟩, hkk⟩ : ∃ kk, T.key z = kk := ⟨_, rfl⟩
      rw [hkk] at hsn k0 k1 k2
      have HSN := Aside0.mk hsn
      have hpl : ((elems S).take i) ++ [(z, ks, kn, kd)] <+: elems S := by rw [← HSN.out]; exact List.take_prefix _ _
      obtain ⟨fn, tmps, assign, body, hy, hR2⟩ := HY.out ((elems S).take i) (z, ks, kn, kd) wr HJ.out hpl
      simp only [encE] at hy
      have ew : wrap64 ((i : Int) + 1) = ((i + 1 : Nat) : Int) := by unfold wrap64; omega
      have HEW := Aside0.mk ew
      clear hA hT hE hol hrow hrd hsn hzm hkey hel hz hTl t1 t4 hN hkk hpl ew
      gi_wp2
      refine hR2.mono ?_
      rintro e W3 (⟨rfl, hJ4, hk4⟩ | ⟨rfl, hJx4⟩)
      · have HJ4 := Aside0.mk hJ4
        have HK4 := Aside0.mk (HKT.out HK.out hk4)
        have hi1 : (i : Int) + 1 ≤ 1048576 := by omega
        clear hJ4 hk4 hR2 hy
        gi_wp2
        go_roundw
        case rel => exact ⟨i + 1, by go_num, by omega, ⟨by rw [HSN.out]; exact HJ4.out⟩, HK4⟩
        case measure => simp only [intOf]; omega
      · have HL4 := Aside0.mk (show ((elems S).take i ++ [(z, ks, kn, kd)]) <+: elems S by rw [← HSN.out]; exact List.take_prefix _ _)
        have HJX := Aside0.mk hJx4
        clear hJx4
        gi_wp2
        refine bodyPost_ret (results_none rfl _ _ _) rfl ?_
        exact ⟨⟨_, rfl⟩, .inr ⟨_, HL4.out, HJX.out⟩⟩
    · obtain rfl : i = m := by omega
      have b1 : decide ((i : Int) < (i : Int)) = false := decide_eq_false (by omega)
      have HJ3 := Aside0.mk (show J (elems S) wr by have := HJ.out; rwa [List.take_of_length_le (by rw [elems_len, HM.out]; exact Nat.le_refl _)] at this)
      clear HJ
      gi_wp2
      go_end0
      exact ⟨⟨_, rfl⟩, .inl ⟨_, rfl, HJ3.out⟩⟩
/-- what a round may do: what the iterator reads is there still -/
def KpL (n g base most : Nat) (v : Value) (S : SL Int) (A B : World) : Prop :=
  A.heap.size ≤ B.heap.size ∧ (ReadAt A n g base most v S → ReadAt B n g base most v S)
theorem KpL.refl (n g base most : Nat) (v : Value) (S : SL Int) (A : World) : KpL n g base most v S A A := ⟨Nat.le_refl _, id⟩
theorem KpL.trans {n g base most : Nat} {v : Value} {S : SL Int} {A B C : World} (h : KpL n g base most v S A B) (k : KpL n g base most v S B C) : KpL n g base most v S A C :=
  ⟨Nat.le_trans h.1 k.1, fun a => k.2 (h.2 a)⟩
theorem SkAt.grown {w w1 : World} {g base most : Nat} {S : SL Int} {row : Option Nat} (h : SkAt w g base S most) (hg : w.grownBy w1 row) (hr : ∀ r, row = some r → ∃ o : Obj, w.heap[r]? = some o ∧ o.isCells = false) : SkAt w1 g base S most := by
  obtain ⟨b, c, ns, h1, h2, h3⟩ := h
  refine ⟨b, c, ns, cells_own g _ _ w w1 row h1 hg hr, ndR_move h2 fun q hq => ?_, h3⟩
  obtain ⟨inner, hown⟩ := Kd.R_own h2
  obtain ⟨cs, hc⟩ := own_typed hown q hq
  rw [hc]; exact cells_own q _ _ w w1 row hc hg hr
theorem R_grown {α : Type} {k : Kd α} {T : TypeId} {w w1 : World} {base : Nat} {ok : Nat → Prop} {v : Value} {l : List α} {row : Option Nat} (h : Kd.R k T w base ok v l) (hM : ∀ (W W' : World) (b : Nat) (p : Nat → Prop) (x : α) (cs : List Value), k.M W b p x cs → k.M W' b p x cs) (hg : w.grownBy w1 row) (hr : ∀ r, row = some r → ∃ o : Obj, w.heap[r]? = some o ∧ o.isCells = false) : Kd.R k T w1 base ok v l := by
  obtain ⟨h0, inner, ho, hrr⟩ := h
  refine ⟨h0, inner, own_move ho fun q hq => ?_, hrr.imp_ (fun _ _ hp => hM _ _ _ _ _ _ hp)⟩
  obtain ⟨cs, hc⟩ := own_typed ho q hq
  rw [hc]; exact cells_own q _ _ w w1 row hc hg hr
theorem AllAt.grown {w w1 : World} {n g : Nat} {v : Value} {l : List Int} {row : Option Nat} (h : AllAt w n g v l) (hg : w.grownBy w1 row) (hr : ∀ r, row = some r → ∃ o : Obj, w.heap[r]? = some o ∧ o.isCells = false) : AllAt w1 n g v l :=
  ⟨cells_own n _ _ w w1 row h.lst hg hr, cells_own (n + 1) _ _ w w1 row h.box hg hr, R_grown h.row (fun _ _ _ _ _ _ h => h) hg hr⟩
theorem KpL.grown {n g base most : Nat} {v : Value} {S : SL Int} {A B : World} {row : Option Nat} (hg : A.grownBy B row) (hr : ∀ r, row = some r → ∃ o : Obj, A.heap[r]? = some o ∧ o.isCells = false) : KpL n g base most v S A B :=
  ⟨hg.size, fun ⟨h, T, h1, h2⟩ => ⟨h.grown hg hr, T, h1.grown hg hr, h2⟩⟩
theorem KpL.below {n g base most : Nat} {v : Value} {S : SL Int} {A B : World} (h : Below A.heap.size A B) : KpL n g base most v S A B :=
  ⟨h.size, fun ⟨a, T, h1, h2⟩ => ⟨a.below h, T, h1.below h, h2⟩⟩
theorem all_known (n g base most : Nat) (v : Value) (S : SL Int) (hS : S.Fine ∧ S.nodes.length ≤ 1048576) (w : World) (hR : ReadAt w n g base most v S) :
    SeqKnown Fence.wide 2 Try.prog 45 #[.pointer (some ⟨n + 1, 0, none⟩), .pointer (some ⟨n, 0, none⟩)] encE (KpL n g base most v S) (fun ys => ys = elems S) (fun pre => pre <+: elems S) w := fun l J Jx W hW hY h0 =>
  all1_inP l n g base most v S hS (KpL n g base most v S) KpL.trans J Jx W (KpL.refl _ _ _ _ _ _ _) (fun W' hK => hK.2 ((KpL.below hW).2 hR)) hY h0
/-- where an Insert turned what it may -/
theorem turns_R {α : Type} {k : Kd α} {T : TypeId} {w w' : World} {g base most b2 : Nat} {S : SL Int} {ok : Nat → Prop} {v : Value} {l : List α} (hk : Kept w w' (Turns w g base)) (h : SkAt w g base S most) (hr : Kd.R k T w b2 ok v l) (hM : ∀ (W W' : World) (b : Nat) (p : Nat → Prop) (x : α) (cs : List Value), k.M W b p x cs → k.M W' b p x cs)
    (h1 : T ≠ 78) (h2 : T ≠ 84) : Kd.R k T w' b2 ok v l := by
  obtain ⟨h0, inner, ho, hrr⟩ := hr
  refine ⟨h0, inner, own_move ho fun q hq => ?_, hrr.imp_ (fun _ _ hp => hM _ _ _ _ _ _ hp)⟩
  obtain ⟨cs, hc⟩ := own_typed ho q hq
  rw [turns_blk hk h hc h1 h2, hc]
theorem turns_keeps {w w' : World} {g base most : Nat} {S : SL Int} (N : Nat) (hk : Kept w w' (Turns w g base)) (h : SkAt w g base S most) : KeepsFrom N w w' := by
  refine ⟨hk.1, fun k o _ ho hc => (hk.2 k (Array.getElem?_eq_some_iff.1 ho).1 ?_).trans ho⟩
  rintro (rfl | ⟨_, cs, hcs⟩)
  · obtain ⟨b, c, ns, h1, _⟩ := h
    rw [h1] at ho
    cases ho
    cases hc
  · rw [hcs] at ho
    cases ho
    cases hc

end Go.Proofs.Ytehfcafmdnfamaa.G
