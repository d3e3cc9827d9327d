/- Contracts of functions and plain laws, several texts of the session put together by its program. -/
import Derived.Test.YtehfcafmdnfamaaProg
import Derived.Below
import Derived.Deep.Draws
import Derived.Deep.AppendLies
import Derived.Maps.AppendAt
import Derived.OwnWalk
import Derived.Laws.BytesArg
import Derived.Laws.MakeOwn
import Derived.Laws.OwnMore
import Derived.Deep.OwnRows
import Derived.Tactics
import Derived.Lib.ConvBytes
import Derived.Laws.Slices
import Derived.WalkKit
import Derived.KernelRfl
import Derived.RowKit3
import Derived.Deep.LoopGhost
import Derived.Deep.QuietTactic
import Derived.BigQuiet
import Derived.WideLaws
import Derived.Deep.DeepCutAuto
import Derived.Deep.CutBlock
import Derived.Deep.RegionHeld3
import Derived.Laws.Rows
import Derived.Lib.AppendStr
import Derived.ArgAppend
import Derived.Laws.IdiomCopy
import Derived.OrdersHeld
import Derived.Laws.BitsLemmas
import Derived.RowKit
import Derived.Test.YtehfcafmdnfamaaWWords
import Derived.Test.YtehfcafmdnfamaaWLast
import Derived.Test.YtehfcafmdnfamaaWTab
import Derived.Test.YtehfcafmdnfamaaWFour
import Derived.Test.YtehfcafmdnfamaaWQPut
import Derived.Test.YtehfcafmdnfamaaWApart
import Derived.Test.YtehfcafmdnfamaaWArr
import Derived.Test.YtehfcafmdnfamaaWZeros
import Derived.Test.YtehfcafmdnfamaaWFoot
import Derived.Test.YtehfcafmdnfamaaWKept
import Derived.Test.YtehfcafmdnfamaaWShare
import Derived.Test.YtehfcafmdnfamaaWN
import Derived.Test.YtehfcafmdnfamaaWFootNe
import Derived.Test.YtehfcafmdnfamaaWAt
import Derived.Test.YtehfcafmdnfamaaWEqStruct
import Derived.Test.YtehfcafmdnfamaaWRepsOne
import Derived.Test.YtehfcafmdnfamaaWInv
import Derived.Test.YtehfcafmdnfamaaWInvWords
import Derived.Test.YtehfcafmdnfamaaWGuard
import Derived.Test.YtehfcafmdnfamaaWNEv
import Derived.Test.YtehfcafmdnfamaaWMore
import Derived.Test.YtehfcafmdnfamaaQ1
import Derived.Test.YtehfcafmdnfamaaQ0
import Derived.RangeFuncNested
import Derived.RangeFuncBound
import Derived.RangeFuncCalls
import Derived.RangeFuncLeaves
import Derived.RangeFuncBox
import Derived.RangeFuncRecord
import Derived.Shelf.Abstract
import Derived.OwnWalkIn
import Derived.TacticsInMore
import Derived.LoopNIn
import Derived.LoopIn

/- Contracts typed by hand: a skiplist in memory: Insert, where it is refused (values: whole numbers) -/
namespace Go.Proofs.Ytehfcafmdnfamaa.G
open Go.RowKit Go.Proofs.YtehfcafmdnfamaaW.PrintWords Go.Proofs.YtehfcafmdnfamaaW.PrintLast Go.Proofs.YtehfcafmdnfamaaW.PrintMore
attribute [local go_sem] max2_int min2_int max_two min_two max_three min_three max_four min_four
set_option linter.unusedVariables false
set_option linter.unusedSimpArgs false

/-! a skiplist in memory: Insert, where it is refused (values: whole numbers) -/
attribute [local go_sem high] eqAk
set_option maxHeartbeats 8000000 in
set_option maxRecDepth 100000 in
theorem sk_ins30 (g base most : Nat) (S : SL Int) (k : IK) (v : Int) (hh : Int) (w : World) (h : SkAt w g base S most) (hv : ikey_Valid.f k.1 k.2.1 k.2.2 = some false) :
    Calls Try.prog 13 #[.pointer (some ⟨g, 0, none⟩), .agg #[.string k.1, .int .u64 k.2.1, .int .i64 k.2.2], encV_ v, .int .i64 hh] w fun e w' => e = .returned (.int .i64 30) ∧ Below w.heap.size w w' := by
  obtain ⟨W1, hW1⟩ : ∃ W1, w.alloc (.cells #[.string k.1, .int .u64 k.2.1, .int .i64 k.2.2] 37) = W1 := ⟨_, rfl⟩
  have HB1 := Aside0.mk (show Below w.heap.size w W1 by rw [← hW1]; exact below_alloc (Below.refl _ _) _)
  have HX1 := Aside0.mk (show W1.heap[w.heap.size]? = some (.cells #[.string k.1, .int .u64 k.2.1, .int .i64 k.2.2] 37 (0, 0)) by rw [← hW1]; exact blk_new w _)
  have H1 := Aside0.mk (h.below HB1.out)
  have HE1 := Aside0.mk hW1
  have HF := Aside0.mk h.fine
  clear hW1
  have x0 := blk_cell HX1.out 0
  have x1 := blk_cell HX1.out 1
  have x2 := blk_cell HX1.out 2
  have HV := Aside0.mk hv
  have hkp := h.fine
  clear hv
  clear h hkp
  go_enter Try.func13, Try.ntmps13
  go_wp2_with fail
  rw [HE1.out]
  (with_reducible refine (sk_none g base most S _ H1.out).mono ?_)
  rintro e w1 ⟨rfl, rfl⟩
  go_wp2_with fail
  (with_reducible refine (ikey_Valid.calls _ _ _ _ _ HV.out).mono ?_)
  rintro e w2 ⟨rfl, hb⟩
  have HB2 := Aside0.mk (below_step HB1.out hb)
  have H2 := Aside0.mk (H1.out.below hb)
  have HX2 := Aside0.mk (blk_below HX1.out hb)
  clear hb x0 x1 x2
  go_wp2
  go_ret
  exact ⟨rfl, HB2.out⟩
set_option maxHeartbeats 8000000 in
set_option maxRecDepth 100000 in
theorem sk_ins2 (g base most : Nat) (S : SL Int) (k : IK) (v : Int) (hh : Int) (w : World) (h : SkAt w g base S most) (hv : ikey_Valid.f k.1 k.2.1 k.2.2 = some true) (hlo : hh < 1) :
    Calls Try.prog 13 #[.pointer (some ⟨g, 0, none⟩), .agg #[.string k.1, .int .u64 k.2.1, .int .i64 k.2.2], encV_ v, .int .i64 hh] w fun e w' => e = .returned (.int .i64 2) ∧ Below w.heap.size w w' := by
  obtain ⟨W1, hW1⟩ : ∃ W1, w.alloc (.cells #[.string k.1, .int .u64 k.2.1, .int .i64 k.2.2] 37) = W1 := ⟨_, rfl⟩
  have HB1 := Aside0.mk (show Below w.heap.size w W1 by rw [← hW1]; exact below_alloc (Below.refl _ _) _)
  have HX1 := Aside0.mk (show W1.heap[w.heap.size]? = some (.cells #[.string k.1, .int .u64 k.2.1, .int .i64 k.2.2] 37 (0, 0)) by rw [← hW1]; exact blk_new w _)
  have H1 := Aside0.mk (h.below HB1.out)
  have HE1 := Aside0.mk hW1
  have HF := Aside0.mk h.fine
  clear hW1
  have x0 := blk_cell HX1.out 0
  have x1 := blk_cell HX1.out 1
  have x2 := blk_cell HX1.out 2
  have HV := Aside0.mk hv
  have hkp := h.fine
  clear hv
  have a1 : decide (hh < 1) = true := decide_eq_true hlo
  clear h hkp
  go_enter Try.func13, Try.ntmps13
  go_wp2_with fail
  rw [HE1.out]
  (with_reducible refine (sk_none g base most S _ H1.out).mono ?_)
  rintro e w1 ⟨rfl, rfl⟩
  go_wp2_with fail
  (with_reducible refine (ikey_Valid.calls _ _ _ _ _ HV.out).mono ?_)
  rintro e w2 ⟨rfl, hb⟩
  have HB2 := Aside0.mk (below_step HB1.out hb)
  have H2 := Aside0.mk (H1.out.below hb)
  have HX2 := Aside0.mk (blk_below HX1.out hb)
  clear hb x0 x1 x2
  go_wp2
  go_ret
  exact ⟨rfl, HB2.out⟩
set_option maxHeartbeats 8000000 in
set_option maxRecDepth 100000 in
theorem sk_ins2h (g base most : Nat) (S : SL Int) (k : IK) (v : Int) (hh : Int) (w : World) (h : SkAt w g base S most) (hv : ikey_Valid.f k.1 k.2.1 k.2.2 = some true) (hhi : 12 < hh) :
    Calls Try.prog 13 #[.pointer (some ⟨g, 0, none⟩), .agg #[.string k.1, .int .u64 k.2.1, .int .i64 k.2.2], encV_ v, .int .i64 hh] w fun e w' => e = .returned (.int .i64 2) ∧ Below w.heap.size w w' := by
  obtain ⟨W1, hW1⟩ : ∃ W1, w.alloc (.cells #[.string k.1, .int .u64 k.2.1, .int .i64 k.2.2] 37) = W1 := ⟨_, rfl⟩
  have HB1 := Aside0.mk (show Below w.heap.size w W1 by rw [← hW1]; exact below_alloc (Below.refl _ _) _)
  have HX1 := Aside0.mk (show W1.heap[w.heap.size]? = some (.cells #[.string k.1, .int .u64 k.2.1, .int .i64 k.2.2] 37 (0, 0)) by rw [← hW1]; exact blk_new w _)
  have H1 := Aside0.mk (h.below HB1.out)
  have HE1 := Aside0.mk hW1
  have HF := Aside0.mk h.fine
  clear hW1
  have x0 := blk_cell HX1.out 0
  have x1 := blk_cell HX1.out 1
  have x2 := blk_cell HX1.out 2
  have HV := Aside0.mk hv
  have hkp := h.fine
  clear hv
  have a1 : decide (hh < 1) = false := decide_eq_false (by omega)
  have a2 : decide (hh > 12) = true := decide_eq_true (by omega)
  clear h hkp
  go_enter Try.func13, Try.ntmps13
  go_wp2_with fail
  rw [HE1.out]
  (with_reducible refine (sk_none g base most S _ H1.out).mono ?_)
  rintro e w1 ⟨rfl, rfl⟩
  go_wp2_with fail
  (with_reducible refine (ikey_Valid.calls _ _ _ _ _ HV.out).mono ?_)
  rintro e w2 ⟨rfl, hb⟩
  have HB2 := Aside0.mk (below_step HB1.out hb)
  have H2 := Aside0.mk (H1.out.below hb)
  have HX2 := Aside0.mk (blk_below HX1.out hb)
  clear hb x0 x1 x2
  go_wp2
  go_ret
  exact ⟨rfl, HB2.out⟩
set_option maxHeartbeats 8000000 in
set_option maxRecDepth 100000 in
theorem sk_ins81 (g base most : Nat) (S : SL Int) (k : IK) (v : Int) (hh : Int) (w : World) (h : SkAt w g base S most) (hv : ikey_Valid.f k.1 k.2.1 k.2.2 = some true) (hlo : 1 ≤ hh) (hhi : hh ≤ 12) (n : Nat) (hn : S.seek k = n) (hn0 : n ≠ 0) (hk : S.key n = k) :
    Calls Try.prog 13 #[.pointer (some ⟨g, 0, none⟩), .agg #[.string k.1, .int .u64 k.2.1, .int .i64 k.2.2], encV_ v, .int .i64 hh] w fun e w' => e = .returned (.int .i64 81) ∧ Below w.heap.size w w' := by
  obtain ⟨W1, hW1⟩ : ∃ W1, w.alloc (.cells #[.string k.1, .int .u64 k.2.1, .int .i64 k.2.2] 37) = W1 := ⟨_, rfl⟩
  have HB1 := Aside0.mk (show Below w.heap.size w W1 by rw [← hW1]; exact below_alloc (Below.refl _ _) _)
  have HX1 := Aside0.mk (show W1.heap[w.heap.size]? = some (.cells #[.string k.1, .int .u64 k.2.1, .int .i64 k.2.2] 37 (0, 0)) by rw [← hW1]; exact blk_new w _)
  have H1 := Aside0.mk (h.below HB1.out)
  have HE1 := Aside0.mk hW1
  have HF := Aside0.mk h.fine
  clear hW1
  have x0 := blk_cell HX1.out 0
  have x1 := blk_cell HX1.out 1
  have x2 := blk_cell HX1.out 2
  have HV := Aside0.mk hv
  have hkp := h.fine
  clear hv
  have a1 : decide (hh < 1) = false := decide_eq_false (by omega)
  have a2 : decide (hh > 12) = false := decide_eq_false (by omega)
  have HZ := Aside0.mk (show 1 ≤ n ∧ n ≤ S.nodes.length from ⟨by omega, by rw [← hn]; exact seek_lt hkp.1 k⟩)
  have HN := Aside0.mk hn
  have HKK := Aside0.mk (show decide (S.key n = k) = true from decide_eq_true hk)
  clear hn0 hk hn
  clear h hkp
  go_enter Try.func13, Try.ntmps13
  go_wp2_with fail
  rw [HE1.out]
  (with_reducible refine (sk_none g base most S _ H1.out).mono ?_)
  rintro e w1 ⟨rfl, rfl⟩
  go_wp2_with fail
  (with_reducible refine (ikey_Valid.calls _ _ _ _ _ HV.out).mono ?_)
  rintro e w2 ⟨rfl, hb⟩
  have HB2 := Aside0.mk (below_step HB1.out hb)
  have H2 := Aside0.mk (H1.out.below hb)
  have HX2 := Aside0.mk (blk_below HX1.out hb)
  clear hb x0 x1 x2
  have x0 := blk_cell HX2.out 0
  have x1 := blk_cell HX2.out 1
  have x2 := blk_cell HX2.out 2
  go_wp2_with fail
  (with_reducible refine (sk_seek g base most S k _ H2.out).mono ?_)
  rintro e w3 ⟨rfl, hb⟩
  have HB3 := Aside0.mk (below_step HB2.out hb)
  have H3 := Aside0.mk (H2.out.below hb)
  have HX3 := Aside0.mk (blk_below HX2.out hb)
  clear hb x0 x1 x2
  rw [HN.out]
  obtain ⟨b, c, ns, h1, h2, _, h4, hM⟩ := H3.out.reads
  obtain ⟨k0, k1, k2, y, hy, hyk, k3⟩ := h4 n HZ.out.1 (by have := HZ.out.2; omega)
  have q0 : w3.cell? ⟨g, 0, none⟩ = some (.slice (some ⟨b, 0, none⟩) (S.nodes.length + 1) c) := (blk_cell h1 0).trans rfl
  have hbq := ikey_beq (S.key n) k
  obtain ⟨⟨ks, kn, kd⟩, hkk⟩ : ∃ kk, S.key n = kk := ⟨_, rfl⟩
  rw [hkk] at k0 k1 k2 hbq
  dsimp only at k0 k1 k2 hbq
  have x0 := blk_cell HX3.out 0
  have x1 := blk_cell HX3.out 1
  have x2 := blk_cell HX3.out 2
  obtain ⟨m, hm⟩ : ∃ m, S.nodes.length + 1 = m := ⟨_, rfl⟩
  rw [hm] at q0
  have hnm : n < m := by have := HZ.out.2; omega
  have hmb : m ≤ 1048577 := by have := HF.out.2.1; omega
  have b3 : ((n : Int) == 0) = false := by have := HZ.out.1; simp; omega
  have b4 : ((n : Int) != 0) = true := by have := HZ.out.1; simp; omega
  have HBQ := Aside0.mk (hbq.trans (show decide ((ks, kn, kd) = k) = true by rw [← hkk]; exact HKK.out))
  clear h1 h2 h4 hM hy hyk hbq hkk hm k3
  go_wp2_with fail
  refine start_ (n := 14) (S := fun w' => w'.cell? ⟨g, 0, none⟩ = some (.slice (some ⟨b, 0, none⟩) m c) ∧ w'.cell? ⟨b, n * 18, none⟩ = some (.string ks) ∧ w'.cell? ⟨b, n * 18 + 1, none⟩ = some (.int .u64 kn) ∧ w'.cell? ⟨b, n * 18 + 2, none⟩ = some (.int .i64 kd) ∧ w'.cell? ⟨w.heap.size, 0, none⟩ = some (.string k.1) ∧ w'.cell? ⟨w.heap.size, 1, none⟩ = some (.int .u64 k.2.1) ∧ w'.cell? ⟨w.heap.size, 2, none⟩ = some (.int .i64 k.2.2)) (ds := []) #[false, false, false, false, false, false, false, false, false, false, false, false, false, false] (by kernel_rfl) rfl rfl ⟨q0, k0, k1, k2, x0, x1, x2⟩ (fun hHeld => ?_)
  refine pure_ (i := 0) (N := some 32) (v := ?_) (a' := ?_) #[true, false, false, false, false, false, false, false, false, false, false, false, false, false] rfl rfl (by kernel_rfl) (fun _ _ _ h => h) (Or.inl ⟨by rfl, ?_⟩) ?_ ?_
  rotate_left
  · intro w'
    go_simp
    with_reducible rfl
  rotate_left
  · simp only [Act.put, List.setIfInBounds_toArray, List.set_cons_zero, List.set_cons_succ, i64_w, i32_w]
    rfl
  refine pure_ (i := 1) (N := some 33) (v := ?_) (a' := ?_) #[true, true, false, false, false, false, false, false, false, false, false, false, false, false] rfl rfl (by kernel_rfl) (fun _ _ _ h => h) (Or.inl ⟨by rfl, ?_⟩) ?_ ?_
  rotate_left
  · intro w'
    go_simp
    with_reducible rfl
  rotate_left
  · simp only [Act.put, List.setIfInBounds_toArray, List.set_cons_zero, List.set_cons_succ, i64_w, i32_w]
    rfl
  refine pure_ (i := 2) (N := some 34) (v := ?_) (a' := ?_) #[true, true, true, false, false, false, false, false, false, false, false, false, false, false] rfl rfl (by kernel_rfl) (fun _ _ _ h => h) (Or.inl ⟨by rfl, ?_⟩) ?_ ?_
  rotate_left
  · intro w'
    go_simp
    with_reducible rfl
  rotate_left
  · simp only [Act.put, List.setIfInBounds_toArray, List.set_cons_zero, List.set_cons_succ, i64_w, i32_w]
    rfl
  refine pure_ (i := 3) (N := some 35) (v := ?_) (a' := ?_) #[true, true, true, true, false, false, false, false, false, false, false, false, false, false] rfl rfl (by kernel_rfl) (fun _ _ _ h => h) (Or.inl ⟨by rfl, ?_⟩) ?_ ?_
  rotate_left
  · intro w'
    go_simp
    with_reducible rfl
  rotate_left
  · simp only [Act.put, List.setIfInBounds_toArray, List.set_cons_zero, List.set_cons_succ, i64_w, i32_w]
    rfl
  refine pure_ (i := 4) (N := some 36) (v := ?_) (a' := ?_) #[true, true, true, true, true, false, false, false, false, false, false, false, false, false] rfl rfl (by kernel_rfl) (fun _ _ _ h => h) (Or.inl ⟨by rfl, ?_⟩) ?_ ?_
  rotate_left
  · intro w'
    go_simp
    with_reducible rfl
  rotate_left
  · simp only [Act.put, List.setIfInBounds_toArray, List.set_cons_zero, List.set_cons_succ, i64_w, i32_w]
    rfl
  refine pure_ (i := 5) (N := some 37) (v := ?_) (a' := ?_) #[true, true, true, true, true, true, false, false, false, false, false, false, false, false] rfl rfl (by kernel_rfl) (fun _ _ _ h => h) (Or.inl ⟨by rfl, ?_⟩) ?_ ?_
  rotate_left
  · intro w'
    go_simp
    with_reducible rfl
  rotate_left
  · simp only [Act.put, List.setIfInBounds_toArray, List.set_cons_zero, List.set_cons_succ, i64_w, i32_w]
    rfl
  refine pure_ (i := 7) (N := some 39) (v := ?_) (a' := ?_) #[true, true, true, true, true, true, false, true, false, false, false, false, false, false] rfl rfl (by kernel_rfl) (fun _ _ _ h => h) (Or.inl ⟨by rfl, ?_⟩) ?_ ?_
  rotate_left
  · intro w'
    go_simp
    with_reducible rfl
  rotate_left
  · simp only [Act.put, List.setIfInBounds_toArray, List.set_cons_zero, List.set_cons_succ, i64_w, i32_w]
    rfl
  refine take_ (i := 6) (N := some 38) (v := ?_) (a' := ?_) #[true, true, true, true, true, true, true, true, false, false, false, false, false, false] rfl rfl (by kernel_rfl) (fun _ _ _ h => h) (Or.inl ⟨by rfl, ?_⟩) hHeld ?_ ?_
  rotate_left
  · rintro w' ⟨s0, s1, s2, s3, s4, s5, s6⟩
    go_simp
    with_reducible rfl
  rotate_left
  · simp only [Act.put, List.setIfInBounds_toArray, List.set_cons_zero, List.set_cons_succ, i64_w, i32_w]
    rfl
  refine pure_ (i := 8) (N := some 40) (v := ?_) (a' := ?_) #[true, true, true, true, true, true, true, true, true, false, false, false, false, false] rfl rfl (by kernel_rfl) (fun _ _ _ h => h) (Or.inl ⟨by rfl, ?_⟩) ?_ ?_
  rotate_left
  · intro w'
    go_simp
    with_reducible rfl
  rotate_left
  · simp only [Act.put, List.setIfInBounds_toArray, List.set_cons_zero, List.set_cons_succ, i64_w, i32_w]
    rfl
  refine pure_ (i := 9) (N := some 41) (v := ?_) (a' := ?_) #[true, true, true, true, true, true, true, true, true, true, false, false, false, false] rfl rfl (by kernel_rfl) (fun _ _ _ h => h) (Or.inl ⟨by rfl, ?_⟩) ?_ ?_
  rotate_left
  · intro w'
    go_simp
    with_reducible rfl
  rotate_left
  · simp only [Act.put, List.setIfInBounds_toArray, List.set_cons_zero, List.set_cons_succ, i64_w, i32_w]
    rfl
  refine take_ (i := 10) (N := some 42) (v := ?_) (a' := ?_) #[true, true, true, true, true, true, true, true, true, true, true, false, false, false] rfl rfl (by kernel_rfl) (fun _ _ _ h => h) (Or.inl ⟨by rfl, ?_⟩) hHeld ?_ ?_
  rotate_left
  · rintro w' ⟨s0, s1, s2, s3, s4, s5, s6⟩
    go_simp
    with_reducible rfl
  rotate_left
  · simp only [Act.put, List.setIfInBounds_toArray, List.set_cons_zero, List.set_cons_succ, i64_w, i32_w]
    rfl
  refine take_ (i := 11) (N := some 43) (v := ?_) (a' := ?_) #[true, true, true, true, true, true, true, true, true, true, true, true, false, false] rfl rfl (by kernel_rfl) (fun _ _ _ h => h) (Or.inl ⟨by rfl, ?_⟩) hHeld ?_ ?_
  rotate_left
  · rintro w' ⟨s0, s1, s2, s3, s4, s5, s6⟩
    go_simp
    with_reducible rfl
  rotate_left
  · simp only [Act.put, List.setIfInBounds_toArray, List.set_cons_zero, List.set_cons_succ, i64_w, i32_w]
    rfl
  refine pure_ (i := 12) (N := some 44) (v := ?_) (a' := ?_) #[true, true, true, true, true, true, true, true, true, true, true, true, true, false] rfl rfl (by kernel_rfl) (fun _ _ _ h => h) (Or.inl ⟨by rfl, ?_⟩) ?_ ?_
  rotate_left
  · intro w'
    go_simp
    with_reducible rfl
  rotate_left
  · simp only [Act.put, List.setIfInBounds_toArray, List.set_cons_zero, List.set_cons_succ, i64_w, i32_w]
    rfl
  refine pure_ (i := 13) (N := some 45) (v := ?_) (a' := ?_) #[true, true, true, true, true, true, true, true, true, true, true, true, true, true] rfl rfl (by kernel_rfl) (fun _ _ _ h => h) (Or.inl ⟨by rfl, ?_⟩) ?_ ?_
  rotate_left
  · intro w'
    go_simp
    with_reducible rfl
  rotate_left
  · simp only [Act.put, List.setIfInBounds_toArray, List.set_cons_zero, List.set_cons_succ, i64_w, i32_w]
    rfl
  refine done_ (by kernel_rfl) ?_
  simp only [HBQ.out]
  clear x0 x1 x2 k0 k1 k2 q0
  go_wp2
  go_ret
  exact ⟨rfl, below_drew1 HB3.out⟩
set_option maxHeartbeats 8000000 in
set_option maxRecDepth 100000 in
theorem sk_ins82z (g base most : Nat) (S : SL Int) (k : IK) (v : Int) (hh : Int) (w : World) (h : SkAt w g base S most) (hv : ikey_Valid.f k.1 k.2.1 k.2.2 = some true) (hlo : 1 ≤ hh) (hhi : hh ≤ 12) (hn : S.seek k = 0) (hfu : most ≤ S.nodes.length) :
    Calls Try.prog 13 #[.pointer (some ⟨g, 0, none⟩), .agg #[.string k.1, .int .u64 k.2.1, .int .i64 k.2.2], encV_ v, .int .i64 hh] w fun e w' => e = .returned (.int .i64 82) ∧ Below w.heap.size w w' := by
  obtain ⟨W1, hW1⟩ : ∃ W1, w.alloc (.cells #[.string k.1, .int .u64 k.2.1, .int .i64 k.2.2] 37) = W1 := ⟨_, rfl⟩
  have HB1 := Aside0.mk (show Below w.heap.size w W1 by rw [← hW1]; exact below_alloc (Below.refl _ _) _)
  have HX1 := Aside0.mk (show W1.heap[w.heap.size]? = some (.cells #[.string k.1, .int .u64 k.2.1, .int .i64 k.2.2] 37 (0, 0)) by rw [← hW1]; exact blk_new w _)
  have H1 := Aside0.mk (h.below HB1.out)
  have HE1 := Aside0.mk hW1
  have HF := Aside0.mk h.fine
  clear hW1
  have x0 := blk_cell HX1.out 0
  have x1 := blk_cell HX1.out 1
  have x2 := blk_cell HX1.out 2
  have HV := Aside0.mk hv
  have hkp := h.fine
  clear hv
  have a1 : decide (hh < 1) = false := decide_eq_false (by omega)
  have a2 : decide (hh > 12) = false := decide_eq_false (by omega)
  have HFU := Aside0.mk hfu
  have HN := Aside0.mk hn
  clear hn hfu
  clear h hkp
  go_enter Try.func13, Try.ntmps13
  go_wp2_with fail
  rw [HE1.out]
  (with_reducible refine (sk_none g base most S _ H1.out).mono ?_)
  rintro e w1 ⟨rfl, rfl⟩
  go_wp2_with fail
  (with_reducible refine (ikey_Valid.calls _ _ _ _ _ HV.out).mono ?_)
  rintro e w2 ⟨rfl, hb⟩
  have HB2 := Aside0.mk (below_step HB1.out hb)
  have H2 := Aside0.mk (H1.out.below hb)
  have HX2 := Aside0.mk (blk_below HX1.out hb)
  clear hb x0 x1 x2
  have x0 := blk_cell HX2.out 0
  have x1 := blk_cell HX2.out 1
  have x2 := blk_cell HX2.out 2
  go_wp2_with fail
  (with_reducible refine (sk_seek g base most S k _ H2.out).mono ?_)
  rintro e w3 ⟨rfl, hb⟩
  have HB3 := Aside0.mk (below_step HB2.out hb)
  have H3 := Aside0.mk (H2.out.below hb)
  have HX3 := Aside0.mk (blk_below HX2.out hb)
  clear hb x0 x1 x2
  rw [HN.out]
  have b3 : ((0 : Int) == 0) = true := rfl
  have b4 : ((0 : Int) != 0) = false := rfl
  go_wp2_with fail
  refine start_ (n := 14) (S := fun w' => True) (ds := []) #[false, false, false, false, false, false, false, false, false, false, false, false, false, false] (by kernel_rfl) rfl rfl trivial (fun hHeld => ?_)
  refine pure_ (i := 0) (N := some 32) (v := ?_) (a' := ?_) #[true, false, false, false, false, false, false, false, false, false, false, false, false, false] rfl rfl (by kernel_rfl) (fun _ _ _ h => h) (Or.inl ⟨by rfl, ?_⟩) ?_ ?_
  rotate_left
  · intro w'
    go_simp
    with_reducible rfl
  rotate_left
  · simp only [Act.put, List.setIfInBounds_toArray, List.set_cons_zero, List.set_cons_succ, i64_w, i32_w]
    rfl
  refine pure_ (i := 1) (N := some 33) (v := ?_) (a' := ?_) #[true, true, false, false, false, false, false, false, false, false, false, false, false, false] rfl rfl (by kernel_rfl) (fun _ _ _ h => h) (Or.inl ⟨by rfl, ?_⟩) ?_ ?_
  rotate_left
  · intro w'
    go_simp
    with_reducible rfl
  rotate_left
  · simp only [Act.put, List.setIfInBounds_toArray, List.set_cons_zero, List.set_cons_succ, i64_w, i32_w]
    rfl
  refine pure_ (i := 2) (N := some 34) (v := ?_) (a' := ?_) #[true, true, true, false, false, false, false, false, false, false, false, false, false, false] rfl rfl (by kernel_rfl) (fun _ _ _ h => h) (Or.inl ⟨by rfl, ?_⟩) ?_ ?_
  rotate_left
  · intro w'
    go_simp
    with_reducible rfl
  rotate_left
  · simp only [Act.put, List.setIfInBounds_toArray, List.set_cons_zero, List.set_cons_succ, i64_w, i32_w]
    rfl
  refine pure_ (i := 3) (N := some 35) (v := undef) (a' := ?_) #[true, true, true, true, false, false, false, false, false, false, false, false, false, false] rfl rfl (by kernel_rfl) (fun _ _ _ h => h) (Or.inr ⟨by rfl, rfl⟩) ?_ ?_
  rotate_left
  · simp only [Act.put, List.setIfInBounds_toArray, List.set_cons_zero, List.set_cons_succ, i64_w, i32_w]
    rfl
  refine pure_ (i := 4) (N := some 36) (v := undef) (a' := ?_) #[true, true, true, true, true, false, false, false, false, false, false, false, false, false] rfl rfl (by kernel_rfl) (fun _ _ _ h => h) (Or.inr ⟨by rfl, rfl⟩) ?_ ?_
  rotate_left
  · simp only [Act.put, List.setIfInBounds_toArray, List.set_cons_zero, List.set_cons_succ, i64_w, i32_w]
    rfl
  refine pure_ (i := 5) (N := some 37) (v := undef) (a' := ?_) #[true, true, true, true, true, true, false, false, false, false, false, false, false, false] rfl rfl (by kernel_rfl) (fun _ _ _ h => h) (Or.inr ⟨by rfl, rfl⟩) ?_ ?_
  rotate_left
  · simp only [Act.put, List.setIfInBounds_toArray, List.set_cons_zero, List.set_cons_succ, i64_w, i32_w]
    rfl
  refine pure_ (i := 6) (N := some 38) (v := undef) (a' := ?_) #[true, true, true, true, true, true, true, false, false, false, false, false, false, false] rfl rfl (by kernel_rfl) (fun _ _ _ h => h) (Or.inr ⟨by rfl, rfl⟩) ?_ ?_
  rotate_left
  · simp only [Act.put, List.setIfInBounds_toArray, List.set_cons_zero, List.set_cons_succ, i64_w, i32_w]
    rfl
  refine pure_ (i := 7) (N := some 39) (v := undef) (a' := ?_) #[true, true, true, true, true, true, true, true, false, false, false, false, false, false] rfl rfl (by kernel_rfl) (fun _ _ _ h => h) (Or.inr ⟨by rfl, rfl⟩) ?_ ?_
  rotate_left
  · simp only [Act.put, List.setIfInBounds_toArray, List.set_cons_zero, List.set_cons_succ, i64_w, i32_w]
    rfl
  refine pure_ (i := 8) (N := some 40) (v := undef) (a' := ?_) #[true, true, true, true, true, true, true, true, true, false, false, false, false, false] rfl rfl (by kernel_rfl) (fun _ _ _ h => h) (Or.inr ⟨by rfl, rfl⟩) ?_ ?_
  rotate_left
  · simp only [Act.put, List.setIfInBounds_toArray, List.set_cons_zero, List.set_cons_succ, i64_w, i32_w]
    rfl
  refine pure_ (i := 9) (N := some 41) (v := undef) (a' := ?_) #[true, true, true, true, true, true, true, true, true, true, false, false, false, false] rfl rfl (by kernel_rfl) (fun _ _ _ h => h) (Or.inr ⟨by rfl, rfl⟩) ?_ ?_
  rotate_left
  · simp only [Act.put, List.setIfInBounds_toArray, List.set_cons_zero, List.set_cons_succ, i64_w, i32_w]
    rfl
  refine pure_ (i := 10) (N := some 42) (v := undef) (a' := ?_) #[true, true, true, true, true, true, true, true, true, true, true, false, false, false] rfl rfl (by kernel_rfl) (fun _ _ _ h => h) (Or.inr ⟨by rfl, rfl⟩) ?_ ?_
  rotate_left
  · simp only [Act.put, List.setIfInBounds_toArray, List.set_cons_zero, List.set_cons_succ, i64_w, i32_w]
    rfl
  refine pure_ (i := 11) (N := some 43) (v := undef) (a' := ?_) #[true, true, true, true, true, true, true, true, true, true, true, true, false, false] rfl rfl (by kernel_rfl) (fun _ _ _ h => h) (Or.inr ⟨by rfl, rfl⟩) ?_ ?_
  rotate_left
  · simp only [Act.put, List.setIfInBounds_toArray, List.set_cons_zero, List.set_cons_succ, i64_w, i32_w]
    rfl
  refine pure_ (i := 12) (N := some 44) (v := undef) (a' := ?_) #[true, true, true, true, true, true, true, true, true, true, true, true, true, false] rfl rfl (by kernel_rfl) (fun _ _ _ h => h) (Or.inr ⟨by rfl, rfl⟩) ?_ ?_
  rotate_left
  · simp only [Act.put, List.setIfInBounds_toArray, List.set_cons_zero, List.set_cons_succ, i64_w, i32_w]
    rfl
  refine pure_ (i := 13) (N := some 45) (v := ?_) (a' := ?_) #[true, true, true, true, true, true, true, true, true, true, true, true, true, true] rfl rfl (by kernel_rfl) (fun _ _ _ h => h) (Or.inl ⟨by rfl, ?_⟩) ?_ ?_
  rotate_left
  · intro w'
    go_simp
    with_reducible rfl
  rotate_left
  · simp only [Act.put, List.setIfInBounds_toArray, List.set_cons_zero, List.set_cons_succ, i64_w, i32_w]
    rfl
  refine done_ (by kernel_rfl) ?_
  obtain ⟨b, c, ns, h1, _⟩ := (show SkAt w3.drew g base S most from H3.out.below (below_drew1 (Below.refl _ _))).reads
  have q0 : w3.drew.cell? ⟨g, 0, none⟩ = some (.slice (some ⟨b, 0, none⟩) (S.nodes.length + 1) c) := (blk_cell h1 0).trans rfl
  have q1 : w3.drew.cell? ⟨g, 1, none⟩ = some (.int .i64 (most : Int)) := (blk_cell h1 1).trans rfl
  obtain ⟨m, hm⟩ : ∃ m, S.nodes.length + 1 = m := ⟨_, rfl⟩
  rw [hm] at q0
  have b5 : decide ((m : Int) > (most : Int)) = true := decide_eq_true (by have := HFU.out; omega)
  have b6 : decide (most < m) = true := decide_eq_true (by have := HFU.out; omega)
  clear h1 hm
  go_wp2_with fail
  refine start_ (n := 10) (S := fun w' => w'.cell? ⟨g, 0, none⟩ = some (.slice (some ⟨b, 0, none⟩) m c) ∧ w'.cell? ⟨g, 1, none⟩ = some (.int .i64 (most : Int))) (ds := []) #[false, false, false, false, false, false, false, false, false, false] (by kernel_rfl) rfl rfl ⟨q0, q1⟩ (fun hHeld => ?_)
  refine pure_ (i := 0) (N := some 46) (v := ?_) (a' := ?_) #[true, false, false, false, false, false, false, false, false, false] rfl rfl (by kernel_rfl) (fun _ _ _ h => h) (Or.inl ⟨by rfl, ?_⟩) ?_ ?_
  rotate_left
  · intro w'
    go_simp
    with_reducible rfl
  rotate_left
  · simp only [Act.put, List.setIfInBounds_toArray, List.set_cons_zero, List.set_cons_succ, i64_w, i32_w]
    rfl
  refine pure_ (i := 1) (N := some 47) (v := ?_) (a' := ?_) #[true, true, false, false, false, false, false, false, false, false] rfl rfl (by kernel_rfl) (fun _ _ _ h => h) (Or.inl ⟨by rfl, ?_⟩) ?_ ?_
  rotate_left
  · intro w'
    go_simp
    with_reducible rfl
  rotate_left
  · simp only [Act.put, List.setIfInBounds_toArray, List.set_cons_zero, List.set_cons_succ, i64_w, i32_w]
    rfl
  refine pure_ (i := 2) (N := some 48) (v := ?_) (a' := ?_) #[true, true, true, false, false, false, false, false, false, false] rfl rfl (by kernel_rfl) (fun _ _ _ h => h) (Or.inl ⟨by rfl, ?_⟩) ?_ ?_
  rotate_left
  · intro w'
    go_simp
    with_reducible rfl
  rotate_left
  · simp only [Act.put, List.setIfInBounds_toArray, List.set_cons_zero, List.set_cons_succ, i64_w, i32_w]
    rfl
  refine pure_ (i := 5) (N := some 51) (v := ?_) (a' := ?_) #[true, true, true, false, false, true, false, false, false, false] rfl rfl (by kernel_rfl) (fun _ _ _ h => h) (Or.inl ⟨by rfl, ?_⟩) ?_ ?_
  rotate_left
  · intro w'
    go_simp
    with_reducible rfl
  rotate_left
  · simp only [Act.put, List.setIfInBounds_toArray, List.set_cons_zero, List.set_cons_succ, i64_w, i32_w]
    rfl
  refine pure_ (i := 6) (N := some 52) (v := ?_) (a' := ?_) #[true, true, true, false, false, true, true, false, false, false] rfl rfl (by kernel_rfl) (fun _ _ _ h => h) (Or.inl ⟨by rfl, ?_⟩) ?_ ?_
  rotate_left
  · intro w'
    go_simp
    with_reducible rfl
  rotate_left
  · simp only [Act.put, List.setIfInBounds_toArray, List.set_cons_zero, List.set_cons_succ, i64_w, i32_w]
    rfl
  refine pure_ (i := 7) (N := some 53) (v := ?_) (a' := ?_) #[true, true, true, false, false, true, true, true, false, false] rfl rfl (by kernel_rfl) (fun _ _ _ h => h) (Or.inl ⟨by rfl, ?_⟩) ?_ ?_
  rotate_left
  · intro w'
    go_simp
    with_reducible rfl
  rotate_left
  · simp only [Act.put, List.setIfInBounds_toArray, List.set_cons_zero, List.set_cons_succ, i64_w, i32_w]
    rfl
  refine take_ (i := 3) (N := some 49) (v := ?_) (a' := ?_) #[true, true, true, true, false, true, true, true, false, false] rfl rfl (by kernel_rfl) (fun _ _ _ h => h) (Or.inl ⟨by rfl, ?_⟩) hHeld ?_ ?_
  rotate_left
  · rintro w' ⟨s0, s1⟩
    go_simp
    with_reducible rfl
  rotate_left
  · simp only [Act.put, List.setIfInBounds_toArray, List.set_cons_zero, List.set_cons_succ, i64_w, i32_w]
    rfl
  refine pure_ (i := 4) (N := some 50) (v := ?_) (a' := ?_) #[true, true, true, true, true, true, true, true, false, false] rfl rfl (by kernel_rfl) (fun _ _ _ h => h) (Or.inl ⟨by rfl, ?_⟩) ?_ ?_
  rotate_left
  · intro w'
    go_simp
    with_reducible rfl
  rotate_left
  · simp only [Act.put, List.setIfInBounds_toArray, List.set_cons_zero, List.set_cons_succ, i64_w, i32_w]
    rfl
  refine take_ (i := 8) (N := some 54) (v := ?_) (a' := ?_) #[true, true, true, true, true, true, true, true, true, false] rfl rfl (by kernel_rfl) (fun _ _ _ h => h) (Or.inl ⟨by rfl, ?_⟩) hHeld ?_ ?_
  rotate_left
  · rintro w' ⟨s0, s1⟩
    go_simp
    with_reducible rfl
  rotate_left
  · simp only [Act.put, List.setIfInBounds_toArray, List.set_cons_zero, List.set_cons_succ, i64_w, i32_w]
    rfl
  refine pure_ (i := 9) (N := some 55) (v := ?_) (a' := ?_) #[true, true, true, true, true, true, true, true, true, true] rfl rfl (by kernel_rfl) (fun _ _ _ h => h) (Or.inl ⟨by rfl, ?_⟩) ?_ ?_
  rotate_left
  · intro w'
    go_simp
    with_reducible rfl
  rotate_left
  · simp only [Act.put, List.setIfInBounds_toArray, List.set_cons_zero, List.set_cons_succ, i64_w, i32_w]
    rfl
  refine done_ (by kernel_rfl) ?_
  first | simp only [b6] | simp only [b5] | skip
  clear q0 q1
  go_wp2
  go_ret
  exact ⟨rfl, below_drew1 (below_drew1 HB3.out)⟩
set_option maxHeartbeats 8000000 in
set_option maxRecDepth 100000 in
theorem sk_ins82n (g base most : Nat) (S : SL Int) (k : IK) (v : Int) (hh : Int) (w : World) (h : SkAt w g base S most) (hv : ikey_Valid.f k.1 k.2.1 k.2.2 = some true) (hlo : 1 ≤ hh) (hhi : hh ≤ 12) (n : Nat) (hn : S.seek k = n) (hn0 : n ≠ 0) (hk : S.key n ≠ k) (hfu : most ≤ S.nodes.length) :
    Calls Try.prog 13 #[.pointer (some ⟨g, 0, none⟩), .agg #[.string k.1, .int .u64 k.2.1, .int .i64 k.2.2], encV_ v, .int .i64 hh] w fun e w' => e = .returned (.int .i64 82) ∧ Below w.heap.size w w' := by
  obtain ⟨W1, hW1⟩ : ∃ W1, w.alloc (.cells #[.string k.1, .int .u64 k.2.1, .int .i64 k.2.2] 37) = W1 := ⟨_, rfl⟩
  have HB1 := Aside0.mk (show Below w.heap.size w W1 by rw [← hW1]; exact below_alloc (Below.refl _ _) _)
  have HX1 := Aside0.mk (show W1.heap[w.heap.size]? = some (.cells #[.string k.1, .int .u64 k.2.1, .int .i64 k.2.2] 37 (0, 0)) by rw [← hW1]; exact blk_new w _)
  have H1 := Aside0.mk (h.below HB1.out)
  have HE1 := Aside0.mk hW1
  have HF := Aside0.mk h.fine
  clear hW1
  have x0 := blk_cell HX1.out 0
  have x1 := blk_cell HX1.out 1
  have x2 := blk_cell HX1.out 2
  have HV := Aside0.mk hv
  have hkp := h.fine
  clear hv
  have a1 : decide (hh < 1) = false := decide_eq_false (by omega)
  have a2 : decide (hh > 12) = false := decide_eq_false (by omega)
  have HFU := Aside0.mk hfu
  have HZ := Aside0.mk (show 1 ≤ n ∧ n ≤ S.nodes.length from ⟨by omega, by rw [← hn]; exact seek_lt hkp.1 k⟩)
  have HN := Aside0.mk hn
  have HKK := Aside0.mk (show decide (S.key n = k) = false from decide_eq_false hk)
  clear hn0 hk hn hfu
  clear h hkp
  go_enter Try.func13, Try.ntmps13
  go_wp2_with fail
  rw [HE1.out]
  (with_reducible refine (sk_none g base most S _ H1.out).mono ?_)
  rintro e w1 ⟨rfl, rfl⟩
  go_wp2_with fail
  (with_reducible refine (ikey_Valid.calls _ _ _ _ _ HV.out).mono ?_)
  rintro e w2 ⟨rfl, hb⟩
  have HB2 := Aside0.mk (below_step HB1.out hb)
  have H2 := Aside0.mk (H1.out.below hb)
  have HX2 := Aside0.mk (blk_below HX1.out hb)
  clear hb x0 x1 x2
  have x0 := blk_cell HX2.out 0
  have x1 := blk_cell HX2.out 1
  have x2 := blk_cell HX2.out 2
  go_wp2_with fail
  (with_reducible refine (sk_seek g base most S k _ H2.out).mono ?_)
  rintro e w3 ⟨rfl, hb⟩
  have HB3 := Aside0.mk (below_step HB2.out hb)
  have H3 := Aside0.mk (H2.out.below hb)
  have HX3 := Aside0.mk (blk_below HX2.out hb)
  clear hb x0 x1 x2
  rw [HN.out]
  obtain ⟨b, c, ns, h1, h2, _, h4, hM⟩ := H3.out.reads
  obtain ⟨k0, k1, k2, y, hy, hyk, k3⟩ := h4 n HZ.out.1 (by have := HZ.out.2; omega)
  have q0 : w3.cell? ⟨g, 0, none⟩ = some (.slice (some ⟨b, 0, none⟩) (S.nodes.length + 1) c) := (blk_cell h1 0).trans rfl
  have hbq := ikey_beq (S.key n) k
  obtain ⟨⟨ks, kn, kd⟩, hkk⟩ : ∃ kk, S.key n = kk := ⟨_, rfl⟩
  rw [hkk] at k0 k1 k2 hbq
  dsimp only at k0 k1 k2 hbq
  have x0 := blk_cell HX3.out 0
  have x1 := blk_cell HX3.out 1
  have x2 := blk_cell HX3.out 2
  obtain ⟨m, hm⟩ : ∃ m, S.nodes.length + 1 = m := ⟨_, rfl⟩
  rw [hm] at q0
  have hnm : n < m := by have := HZ.out.2; omega
  have hmb : m ≤ 1048577 := by have := HF.out.2.1; omega
  have b3 : ((n : Int) == 0) = false := by have := HZ.out.1; simp; omega
  have b4 : ((n : Int) != 0) = true := by have := HZ.out.1; simp; omega
  have HBQ := Aside0.mk (hbq.trans (show decide ((ks, kn, kd) = k) = false by rw [← hkk]; exact HKK.out))
  clear h1 h2 h4 hM hy hyk hbq hkk hm k3
  go_wp2_with fail
  refine start_ (n := 14) (S := fun w' => w'.cell? ⟨g, 0, none⟩ = some (.slice (some ⟨b, 0, none⟩) m c) ∧ w'.cell? ⟨b, n * 18, none⟩ = some (.string ks) ∧ w'.cell? ⟨b, n * 18 + 1, none⟩ = some (.int .u64 kn) ∧ w'.cell? ⟨b, n * 18 + 2, none⟩ = some (.int .i64 kd) ∧ w'.cell? ⟨w.heap.size, 0, none⟩ = some (.string k.1) ∧ w'.cell? ⟨w.heap.size, 1, none⟩ = some (.int .u64 k.2.1) ∧ w'.cell? ⟨w.heap.size, 2, none⟩ = some (.int .i64 k.2.2)) (ds := []) #[false, false, false, false, false, false, false, false, false, false, false, false, false, false] (by kernel_rfl) rfl rfl ⟨q0, k0, k1, k2, x0, x1, x2⟩ (fun hHeld => ?_)
  refine pure_ (i := 0) (N := some 32) (v := ?_) (a' := ?_) #[true, false, false, false, false, false, false, false, false, false, false, false, false, false] rfl rfl (by kernel_rfl) (fun _ _ _ h => h) (Or.inl ⟨by rfl, ?_⟩) ?_ ?_
  rotate_left
  · intro w'
    go_simp
    with_reducible rfl
  rotate_left
  · simp only [Act.put, List.setIfInBounds_toArray, List.set_cons_zero, List.set_cons_succ, i64_w, i32_w]
    rfl
  refine pure_ (i := 1) (N := some 33) (v := ?_) (a' := ?_) #[true, true, false, false, false, false, false, false, false, false, false, false, false, false] rfl rfl (by kernel_rfl) (fun _ _ _ h => h) (Or.inl ⟨by rfl, ?_⟩) ?_ ?_
  rotate_left
  · intro w'
    go_simp
    with_reducible rfl
  rotate_left
  · simp only [Act.put, List.setIfInBounds_toArray, List.set_cons_zero, List.set_cons_succ, i64_w, i32_w]
    rfl
  refine pure_ (i := 2) (N := some 34) (v := ?_) (a' := ?_) #[true, true, true, false, false, false, false, false, false, false, false, false, false, false] rfl rfl (by kernel_rfl) (fun _ _ _ h => h) (Or.inl ⟨by rfl, ?_⟩) ?_ ?_
  rotate_left
  · intro w'
    go_simp
    with_reducible rfl
  rotate_left
  · simp only [Act.put, List.setIfInBounds_toArray, List.set_cons_zero, List.set_cons_succ, i64_w, i32_w]
    rfl
  refine pure_ (i := 3) (N := some 35) (v := ?_) (a' := ?_) #[true, true, true, true, false, false, false, false, false, false, false, false, false, false] rfl rfl (by kernel_rfl) (fun _ _ _ h => h) (Or.inl ⟨by rfl, ?_⟩) ?_ ?_
  rotate_left
  · intro w'
    go_simp
    with_reducible rfl
  rotate_left
  · simp only [Act.put, List.setIfInBounds_toArray, List.set_cons_zero, List.set_cons_succ, i64_w, i32_w]
    rfl
  refine pure_ (i := 4) (N := some 36) (v := ?_) (a' := ?_) #[true, true, true, true, true, false, false, false, false, false, false, false, false, false] rfl rfl (by kernel_rfl) (fun _ _ _ h => h) (Or.inl ⟨by rfl, ?_⟩) ?_ ?_
  rotate_left
  · intro w'
    go_simp
    with_reducible rfl
  rotate_left
  · simp only [Act.put, List.setIfInBounds_toArray, List.set_cons_zero, List.set_cons_succ, i64_w, i32_w]
    rfl
  refine pure_ (i := 5) (N := some 37) (v := ?_) (a' := ?_) #[true, true, true, true, true, true, false, false, false, false, false, false, false, false] rfl rfl (by kernel_rfl) (fun _ _ _ h => h) (Or.inl ⟨by rfl, ?_⟩) ?_ ?_
  rotate_left
  · intro w'
    go_simp
    with_reducible rfl
  rotate_left
  · simp only [Act.put, List.setIfInBounds_toArray, List.set_cons_zero, List.set_cons_succ, i64_w, i32_w]
    rfl
  refine pure_ (i := 7) (N := some 39) (v := ?_) (a' := ?_) #[true, true, true, true, true, true, false, true, false, false, false, false, false, false] rfl rfl (by kernel_rfl) (fun _ _ _ h => h) (Or.inl ⟨by rfl, ?_⟩) ?_ ?_
  rotate_left
  · intro w'
    go_simp
    with_reducible rfl
  rotate_left
  · simp only [Act.put, List.setIfInBounds_toArray, List.set_cons_zero, List.set_cons_succ, i64_w, i32_w]
    rfl
  refine take_ (i := 6) (N := some 38) (v := ?_) (a' := ?_) #[true, true, true, true, true, true, true, true, false, false, false, false, false, false] rfl rfl (by kernel_rfl) (fun _ _ _ h => h) (Or.inl ⟨by rfl, ?_⟩) hHeld ?_ ?_
  rotate_left
  · rintro w' ⟨s0, s1, s2, s3, s4, s5, s6⟩
    go_simp
    with_reducible rfl
  rotate_left
  · simp only [Act.put, List.setIfInBounds_toArray, List.set_cons_zero, List.set_cons_succ, i64_w, i32_w]
    rfl
  refine pure_ (i := 8) (N := some 40) (v := ?_) (a' := ?_) #[true, true, true, true, true, true, true, true, true, false, false, false, false, false] rfl rfl (by kernel_rfl) (fun _ _ _ h => h) (Or.inl ⟨by rfl, ?_⟩) ?_ ?_
  rotate_left
  · intro w'
    go_simp
    with_reducible rfl
  rotate_left
  · simp only [Act.put, List.setIfInBounds_toArray, List.set_cons_zero, List.set_cons_succ, i64_w, i32_w]
    rfl
  refine pure_ (i := 9) (N := some 41) (v := ?_) (a' := ?_) #[true, true, true, true, true, true, true, true, true, true, false, false, false, false] rfl rfl (by kernel_rfl) (fun _ _ _ h => h) (Or.inl ⟨by rfl, ?_⟩) ?_ ?_
  rotate_left
  · intro w'
    go_simp
    with_reducible rfl
  rotate_left
  · simp only [Act.put, List.setIfInBounds_toArray, List.set_cons_zero, List.set_cons_succ, i64_w, i32_w]
    rfl
  refine take_ (i := 10) (N := some 42) (v := ?_) (a' := ?_) #[true, true, true, true, true, true, true, true, true, true, true, false, false, false] rfl rfl (by kernel_rfl) (fun _ _ _ h => h) (Or.inl ⟨by rfl, ?_⟩) hHeld ?_ ?_
  rotate_left
  · rintro w' ⟨s0, s1, s2, s3, s4, s5, s6⟩
    go_simp
    with_reducible rfl
  rotate_left
  · simp only [Act.put, List.setIfInBounds_toArray, List.set_cons_zero, List.set_cons_succ, i64_w, i32_w]
    rfl
  refine take_ (i := 11) (N := some 43) (v := ?_) (a' := ?_) #[true, true, true, true, true, true, true, true, true, true, true, true, false, false] rfl rfl (by kernel_rfl) (fun _ _ _ h => h) (Or.inl ⟨by rfl, ?_⟩) hHeld ?_ ?_
  rotate_left
  · rintro w' ⟨s0, s1, s2, s3, s4, s5, s6⟩
    go_simp
    with_reducible rfl
  rotate_left
  · simp only [Act.put, List.setIfInBounds_toArray, List.set_cons_zero, List.set_cons_succ, i64_w, i32_w]
    rfl
  refine pure_ (i := 12) (N := some 44) (v := ?_) (a' := ?_) #[true, true, true, true, true, true, true, true, true, true, true, true, true, false] rfl rfl (by kernel_rfl) (fun _ _ _ h => h) (Or.inl ⟨by rfl, ?_⟩) ?_ ?_
  rotate_left
  · intro w'
    go_simp
    with_reducible rfl
  rotate_left
  · simp only [Act.put, List.setIfInBounds_toArray, List.set_cons_zero, List.set_cons_succ, i64_w, i32_w]
    rfl
  refine pure_ (i := 13) (N := some 45) (v := ?_) (a' := ?_) #[true, true, true, true, true, true, true, true, true, true, true, true, true, true] rfl rfl (by kernel_rfl) (fun _ _ _ h => h) (Or.inl ⟨by rfl, ?_⟩) ?_ ?_
  rotate_left
  · intro w'
    go_simp
    with_reducible rfl
  rotate_left
  · simp only [Act.put, List.setIfInBounds_toArray, List.set_cons_zero, List.set_cons_succ, i64_w, i32_w]
    rfl
  refine done_ (by kernel_rfl) ?_
  simp only [HBQ.out]
  clear x0 x1 x2 k0 k1 k2 q0
  obtain ⟨b, c, ns, h1, _⟩ := (show SkAt w3.drew g base S most from H3.out.below (below_drew1 (Below.refl _ _))).reads
  have q0 : w3.drew.cell? ⟨g, 0, none⟩ = some (.slice (some ⟨b, 0, none⟩) (S.nodes.length + 1) c) := (blk_cell h1 0).trans rfl
  have q1 : w3.drew.cell? ⟨g, 1, none⟩ = some (.int .i64 (most : Int)) := (blk_cell h1 1).trans rfl
  obtain ⟨m, hm⟩ : ∃ m, S.nodes.length + 1 = m := ⟨_, rfl⟩
  rw [hm] at q0
  have b5 : decide ((m : Int) > (most : Int)) = true := decide_eq_true (by have := HFU.out; omega)
  have b6 : decide (most < m) = true := decide_eq_true (by have := HFU.out; omega)
  clear h1 hm
  go_wp2_with fail
  refine start_ (n := 10) (S := fun w' => w'.cell? ⟨g, 0, none⟩ = some (.slice (some ⟨b, 0, none⟩) m c) ∧ w'.cell? ⟨g, 1, none⟩ = some (.int .i64 (most : Int))) (ds := []) #[false, false, false, false, false, false, false, false, false, false] (by kernel_rfl) rfl rfl ⟨q0, q1⟩ (fun hHeld => ?_)
  refine pure_ (i := 0) (N := some 46) (v := ?_) (a' := ?_) #[true, false, false, false, false, false, false, false, false, false] rfl rfl (by kernel_rfl) (fun _ _ _ h => h) (Or.inl ⟨by rfl, ?_⟩) ?_ ?_
  rotate_left
  · intro w'
    go_simp
    with_reducible rfl
  rotate_left
  · simp only [Act.put, List.setIfInBounds_toArray, List.set_cons_zero, List.set_cons_succ, i64_w, i32_w]
    rfl
  refine pure_ (i := 1) (N := some 47) (v := ?_) (a' := ?_) #[true, true, false, false, false, false, false, false, false, false] rfl rfl (by kernel_rfl) (fun _ _ _ h => h) (Or.inl ⟨by rfl, ?_⟩) ?_ ?_
  rotate_left
  · intro w'
    go_simp
    with_reducible rfl
  rotate_left
  · simp only [Act.put, List.setIfInBounds_toArray, List.set_cons_zero, List.set_cons_succ, i64_w, i32_w]
    rfl
  refine pure_ (i := 2) (N := some 48) (v := ?_) (a' := ?_) #[true, true, true, false, false, false, false, false, false, false] rfl rfl (by kernel_rfl) (fun _ _ _ h => h) (Or.inl ⟨by rfl, ?_⟩) ?_ ?_
  rotate_left
  · intro w'
    go_simp
    with_reducible rfl
  rotate_left
  · simp only [Act.put, List.setIfInBounds_toArray, List.set_cons_zero, List.set_cons_succ, i64_w, i32_w]
    rfl
  refine pure_ (i := 5) (N := some 51) (v := ?_) (a' := ?_) #[true, true, true, false, false, true, false, false, false, false] rfl rfl (by kernel_rfl) (fun _ _ _ h => h) (Or.inl ⟨by rfl, ?_⟩) ?_ ?_
  rotate_left
  · intro w'
    go_simp
    with_reducible rfl
  rotate_left
  · simp only [Act.put, List.setIfInBounds_toArray, List.set_cons_zero, List.set_cons_succ, i64_w, i32_w]
    rfl
  refine pure_ (i := 6) (N := some 52) (v := ?_) (a' := ?_) #[true, true, true, false, false, true, true, false, false, false] rfl rfl (by kernel_rfl) (fun _ _ _ h => h) (Or.inl ⟨by rfl, ?_⟩) ?_ ?_
  rotate_left
  · intro w'
    go_simp
    with_reducible rfl
  rotate_left
  · simp only [Act.put, List.setIfInBounds_toArray, List.set_cons_zero, List.set_cons_succ, i64_w, i32_w]
    rfl
  refine pure_ (i := 7) (N := some 53) (v := ?_) (a' := ?_) #[true, true, true, false, false, true, true, true, false, false] rfl rfl (by kernel_rfl) (fun _ _ _ h => h) (Or.inl ⟨by rfl, ?_⟩) ?_ ?_
  rotate_left
  · intro w'
    go_simp
    with_reducible rfl
  rotate_left
  · simp only [Act.put, List.setIfInBounds_toArray, List.set_cons_zero, List.set_cons_succ, i64_w, i32_w]
    rfl
  refine take_ (i := 3) (N := some 49) (v := ?_) (a' := ?_) #[true, true, true, true, false, true, true, true, false, false] rfl rfl (by kernel_rfl) (fun _ _ _ h => h) (Or.inl ⟨by rfl, ?_⟩) hHeld ?_ ?_
  rotate_left
  · rintro w' ⟨s0, s1⟩
    go_simp
    with_reducible rfl
  rotate_left
  · simp only [Act.put, List.setIfInBounds_toArray, List.set_cons_zero, List.set_cons_succ, i64_w, i32_w]
    rfl
  refine pure_ (i := 4) (N := some 50) (v := ?_) (a' := ?_) #[true, true, true, true, true, true, true, true, false, false] rfl rfl (by kernel_rfl) (fun _ _ _ h => h) (Or.inl ⟨by rfl, ?_⟩) ?_ ?_
  rotate_left
  · intro w'
    go_simp
    with_reducible rfl
  rotate_left
  · simp only [Act.put, List.setIfInBounds_toArray, List.set_cons_zero, List.set_cons_succ, i64_w, i32_w]
    rfl
  refine take_ (i := 8) (N := some 54) (v := ?_) (a' := ?_) #[true, true, true, true, true, true, true, true, true, false] rfl rfl (by kernel_rfl) (fun _ _ _ h => h) (Or.inl ⟨by rfl, ?_⟩) hHeld ?_ ?_
  rotate_left
  · rintro w' ⟨s0, s1⟩
    go_simp
    with_reducible rfl
  rotate_left
  · simp only [Act.put, List.setIfInBounds_toArray, List.set_cons_zero, List.set_cons_succ, i64_w, i32_w]
    rfl
  refine pure_ (i := 9) (N := some 55) (v := ?_) (a' := ?_) #[true, true, true, true, true, true, true, true, true, true] rfl rfl (by kernel_rfl) (fun _ _ _ h => h) (Or.inl ⟨by rfl, ?_⟩) ?_ ?_
  rotate_left
  · intro w'
    go_simp
    with_reducible rfl
  rotate_left
  · simp only [Act.put, List.setIfInBounds_toArray, List.set_cons_zero, List.set_cons_succ, i64_w, i32_w]
    rfl
  refine done_ (by kernel_rfl) ?_
  first | simp only [b6] | simp only [b5] | skip
  clear q0 q1
  go_wp2
  go_ret
  exact ⟨rfl, below_drew1 (below_drew1 HB3.out)⟩

end Go.Proofs.Ytehfcafmdnfamaa.G

/- Contracts typed by hand: levels and ways of a skiplist, plain -/
namespace Go.Proofs.Ytehfcafmdnfamaa.G
open Go.RowKit Go.Proofs.YtehfcafmdnfamaaW.PrintWords Go.Proofs.YtehfcafmdnfamaaW.PrintLast Go.Proofs.YtehfcafmdnfamaaW.PrintMore
attribute [local go_sem] max2_int min2_int max_two min_two max_three min_three max_four min_four
set_option linter.unusedVariables false
set_option linter.unusedSimpArgs false

/-! levels and ways of a skiplist, plain -/
def lvls {V : Type} (S : SL V) (j : Nat) (a : List Nat) : List Int := (a.filter fun z => decide (j < S.ht z)).map fun z : Nat => (z : Int)
/-- what Links tells -/
def lvl {V : Type} (S : SL V) (lv : Int) : List Int := if lv < 0 then [] else lvls S lv.toNat S.order
/-- what Trail tells -/
def trt {V : Type} (S : SL V) (k : IK) (lo n : Nat) : List Int := (List.range' lo n).reverse.map fun j : Nat => ((tr S.ht j (S.below k) : Nat) : Int)
theorem lvls_nil {V : Type} (S : SL V) (j : Nat) : lvls S j [] = [] := rfl
theorem lvls_none {V : Type} {S : SL V} {j : Nat} (a : List Nat) {c : List Nat} (h : ∀ z ∈ c, ¬ j < S.ht z) : lvls S j (a ++ c) = lvls S j a := by
  have hc : (c.filter fun z => decide (j < S.ht z)) = [] := List.filter_eq_nil_iff.2 (fun z hz => by simpa using h z hz)
  unfold lvls
  rw [List.filter_append, hc, List.append_nil]
theorem lvls_step {V : Type} {S : SL V} {j z : Nat} (a : List Nat) {c : List Nat} (h : ∀ u ∈ c, ¬ j < S.ht u) (hz : j < S.ht z) : lvls S j (a ++ c ++ [z]) = lvls S j a ++ [(z : Int)] := by
  have := lvls_none a h
  unfold lvls at this ⊢
  rw [List.filter_append, List.map_append, this]
  simp [hz]
theorem lvls_len {V : Type} (S : SL V) (j : Nat) (a : List Nat) : (lvls S j a).length ≤ a.length := by
  unfold lvls
  rw [List.length_map]
  exact List.length_filter_le _ _
theorem lvl_neg {V : Type} (S : SL V) {lv : Int} (h : lv < 0) : lvl S lv = [] := if_pos h
theorem lvl_nat {V : Type} (S : SL V) (j : Nat) : lvl S (j : Int) = lvls S j S.order := by
  unfold lvl
  rw [if_neg (show ¬ (j : Int) < 0 by omega), Int.toNat_natCast]
theorem lvls_high {V : Type} {S : SL V} (hS : S.Fine) {j : Nat} (h : S.height ≤ j) : lvls S j S.order = [] := by
  have := lvls_none (S := S) (j := j) [] (c := S.order) fun z hz => by
    have := S.ht_le hS hz
    omega
  rwa [List.nil_append] at this
theorem trt_step {V : Type} (S : SL V) (k : IK) (lo n : Nat) : trt S k lo (n + 1) = trt S k (lo + 1) n ++ [((tr S.ht lo (S.below k) : Nat) : Int)] := by
  unfold trt
  rw [List.range'_succ, List.reverse_cons, List.map_append]; rfl
theorem trt_len {V : Type} (S : SL V) (k : IK) (lo n : Nat) : (trt S k lo n).length = n := by simp [trt]

end Go.Proofs.Ytehfcafmdnfamaa.G

/- Contracts typed by hand: Insert's answers, lists made of puts: plain -/
namespace Go.Proofs.Ytehfcafmdnfamaa.G
open Go.RowKit Go.Proofs.YtehfcafmdnfamaaW.PrintWords Go.Proofs.YtehfcafmdnfamaaW.PrintLast Go.Proofs.YtehfcafmdnfamaaW.PrintMore
attribute [local go_sem] max2_int min2_int max_two min_two max_three min_three max_four min_four
set_option linter.unusedVariables false
set_option linter.unusedSimpArgs false

/-! Insert's answers, lists made of puts: plain -/
def vk (k : IK) : Bool := (ikey_Valid.f k.1 k.2.1 k.2.2).getD false
theorem vk_eq (k : IK) : ikey_Valid.f k.1 k.2.1 k.2.2 = some (vk k) := by
  unfold vk
  cases h : ikey_Valid.f k.1 k.2.1 k.2.2 with
  | some b => rfl
  | none =>
    exfalso
    rw [valid_eq] at h
    unfold moraineref03_Valid.f moraineref03_kind.f at h
    revert h
    repeat' split
    all_goals simp
section
variable {V : Type}
def insC (S : SL V) (most : Nat) (k : IK) (hh : Int) : Int :=
  if vk k = false then 30 else if hh < 1 ∨ 12 < hh then 2 else if S.find k ≠ 0 then 81 else if most ≤ S.nodes.length then 82 else 0
def insS (S : SL V) (most : Nat) (k : IK) (v : V) (hh : Int) : SL V := if insC S most k hh = 0 then S.put k v hh.toNat else S
theorem insC_zero {S : SL V} {most : Nat} {k : IK} {hh : Int} (h : insC S most k hh = 0) : vk k = true ∧ 1 ≤ hh ∧ hh ≤ 12 ∧ S.find k = 0 ∧ S.nodes.length < most := by
  unfold insC at h
  by_cases c1 : vk k = false
  · rw [if_pos c1] at h; omega
  · rw [if_neg c1] at h
    by_cases c2 : hh < 1 ∨ 12 < hh
    · rw [if_pos c2] at h; omega
    · rw [if_neg c2] at h
      by_cases c3 : S.find k ≠ 0
      · rw [if_pos c3] at h; omega
      · rw [if_neg c3] at h
        by_cases c4 : most ≤ S.nodes.length
        · rw [if_pos c4] at h; omega
        · exact ⟨by simpa using c1, by omega, by omega, by omega, by omega⟩
theorem fine_ins {S : SL V} (hS : S.Fine) (most : Nat) (k : IK) (v : V) (hh : Int) : (insS S most k v hh).Fine := by
  unfold insS
  split
  · rename_i h
    obtain ⟨_, h1, h2, h3, _⟩ := insC_zero h
    exact SL.fine_put hS h3 v (by omega) (by omega)
  · exact hS
/-- the same keys, in the same order, with what belongs to them -/
structure Alike (S T : SL V) : Prop where
  order : S.order = T.order
  nodes : S.nodes.map (fun x => (x.1, x.2.1)) = T.nodes.map (fun x => (x.1, x.2.1))
namespace Alike
variable {S T : SL V}
theorem refl (S : SL V) : Alike S S := ⟨rfl, rfl⟩
theorem len (h : Alike S T) : S.nodes.length = T.nodes.length := by simpa using congrArg List.length h.nodes
theorem node (h : Alike S T) (z : Nat) : S.nodes[z]?.map (fun x => (x.1, x.2.1)) = T.nodes[z]?.map (fun x => (x.1, x.2.1)) := by
  have e := congrArg (fun l => l[z]?) h.nodes
  simpa only [List.getElem?_map] using e
theorem key (h : Alike S T) (z : Nat) : S.key z = T.key z := by
  have e := h.node (z - 1)
  unfold SL.key
  cases h1 : S.nodes[z - 1]? <;> cases h2 : T.nodes[z - 1]? <;> rw [h1, h2] at e <;> simp at e ⊢
  exact e.1
theorem below (h : Alike S T) (k : IK) : S.below k = T.below k := by
  unfold SL.below
  rw [h.order]
  exact List.filter_congr fun z _ => by rw [h.key]
theorem rest (h : Alike S T) (k : IK) : S.rest k = T.rest k := by
  unfold SL.rest
  rw [h.order]
  exact List.filter_congr fun z _ => by rw [h.key]
theorem seek (h : Alike S T) (k : IK) : S.seek k = T.seek k := by unfold SL.seek; rw [h.rest]
theorem before (h : Alike S T) (k : IK) : S.before k = T.before k := by unfold SL.before; rw [h.below]
theorem find (h : Alike S T) (k : IK) : S.find k = T.find k := by unfold SL.find; rw [h.seek, h.key]
theorem put (h : Alike S T) (k : IK) (v : V) (a b : Nat) : Alike (S.put k v a) (T.put k v b) :=
  ⟨by show S.below k ++ (S.nodes.length + 1) :: S.rest k = T.below k ++ (T.nodes.length + 1) :: T.rest k; rw [h.below, h.rest, h.len], by simp only [SL.put, List.map_append, h.nodes, List.map_cons, List.map_nil]⟩
theorem insC (h : Alike S T) (most : Nat) (k : IK) {a b : Int} (ha : 1 ≤ a ∧ a ≤ 12) (hb : 1 ≤ b ∧ b ≤ 12) : G.insC S most k a = G.insC T most k b := by
  unfold G.insC
  rw [h.find, h.len, if_neg (show ¬ (a < 1 ∨ 12 < a) by omega), if_neg (show ¬ (b < 1 ∨ 12 < b) by omega)]
end Alike
end
/-- a list made of puts, and which of them were taken -/
def madeS (hf : Int → Nat) : List (IK × Int) → Nat → SL Int → List Int → SL Int × List Int
  | [], _, S, t => (S, t)
  | p :: l, i, S, t => if insC S 1048576 p.1 (hf p.2 : Int) = 0 then madeS hf l (i + 1) (S.put p.1 (i : Int) (hf p.2)) (t ++ [(i : Int)]) else madeS hf l (i + 1) S t
structure Made (S : SL Int) (t : List Int) : Prop where
  fine : S.Fine
  vals : S.nodes.map (fun x => x.2.1) = t
theorem Made.len {S : SL Int} {t : List Int} (h : Made S t) : t.length = S.nodes.length := by rw [← h.vals, List.length_map]
theorem Made.put {S : SL Int} {t : List Int} (h : Made S t) {k : IK} {most : Nat} {a : Nat} (hz : insC S most k (a : Int) = 0) (i : Int) : Made (S.put k i a) (t ++ [i]) := by
  obtain ⟨_, h1, h2, h3, _⟩ := insC_zero hz
  exact ⟨SL.fine_put h.fine h3 i (by omega) (by omega), by simp [SL.put, ← h.vals]⟩
theorem madeS_made (hf : Int → Nat) : ∀ (l : List (IK × Int)) (i : Nat) (S : SL Int) (t : List Int), Made S t → Made (madeS hf l i S t).1 (madeS hf l i S t).2
  | [], _, _, _, h => h
  | p :: l, i, S, t, h => by
    rw [madeS]
    split
    · rename_i hz
      exact madeS_made hf l (i + 1) _ _ (h.put hz i)
    · exact madeS_made hf l (i + 1) S t h
theorem madeS_alike {hf hg : Int → Nat} (h1 : ∀ x, 1 ≤ hf x ∧ hf x ≤ 12) (h2 : ∀ x, 1 ≤ hg x ∧ hg x ≤ 12) : ∀ (l : List (IK × Int)) (i : Nat) (S T : SL Int) (t : List Int), Alike S T →
    Alike (madeS hf l i S t).1 (madeS hg l i T t).1 ∧ (madeS hf l i S t).2 = (madeS hg l i T t).2
  | [], _, _, _, _, h => ⟨h, rfl⟩
  | p :: l, i, S, T, t, h => by
    have a1 := h1 p.2
    have a2 := h2 p.2
    rw [madeS, madeS, h.insC 1048576 p.1 (a := (hf p.2 : Int)) (b := (hg p.2 : Int)) (by omega) (by omega)]
    split
    · exact madeS_alike h1 h2 l (i + 1) _ _ _ (h.put p.1 (i : Int) _ _)
    · exact madeS_alike h1 h2 l (i + 1) S T t h
theorem made_nil : Made SL.nil [] := ⟨SL.fine_nil, rfl⟩
/-! levels -/
section
variable {V : Type} {S : SL V}
theorem lvls_zero (hS : S.Fine) : lvls S 0 S.order = S.order.map fun z : Nat => (z : Int) := by
  unfold lvls
  rw [List.filter_eq_self.2 fun z hz => by have := S.ht_pos hS hz; simp; omega]
theorem lvls_sub (a : List Nat) (j : Nat) : List.Sublist (lvls S (j + 1) a) (lvls S j a) := by
  unfold lvls
  refine List.Sublist.map _ ?_
  induction a with
  | nil => exact List.Sublist.refl _
  | cons z a ih =>
    by_cases h : j + 1 < S.ht z
    · rw [List.filter_cons_of_pos (by simpa using h), List.filter_cons_of_pos (by simp; omega)]
      exact ih.cons_cons z
    · rw [List.filter_cons_of_neg (by simpa using h)]
      by_cases h2 : j < S.ht z
      · rw [List.filter_cons_of_pos (by simpa using h2)]
        exact ih.cons z
      · rw [List.filter_cons_of_neg (by simpa using h2)]
        exact ih
theorem lvls_ne (hS : S.Fine) {j : Nat} (h : j < S.height) : lvls S j S.order ≠ [] := by
  obtain ⟨z, hz, e⟩ := SL.height_top hS (by omega)
  intro h0
  have : ((z : Int)) ∈ lvls S j S.order := by
    unfold lvls
    exact List.mem_map.2 ⟨z, List.mem_filter.2 ⟨hz, by simp; omega⟩, rfl⟩
  rw [h0] at this
  cases this
theorem height_zero (hS : S.Fine) : S.height = 0 ↔ S.nodes.length = 0 := by
  constructor
  · intro h
    cases hn : S.nodes with
    | nil => rfl
    | cons x l =>
      exfalso
      have hm : 1 ∈ S.order := hS.all 1 (Nat.le_refl _) (by rw [hn]; simp)
      have := (S.ht_pos hS hm).1
      have := SL.ht_le hS hm
      omega
  · intro h
    unfold SL.height
    rw [List.length_eq_zero_iff.1 h]; rfl
/-- the last one of a level's nodes that is below a key -/
theorem tr_links (k : IK) (j : Nat) : tr S.ht j (S.below k) = lastOf ((S.order.filter fun z => decide (j < S.ht z)).filter fun z => kl (S.key z) k) := by
  unfold tr SL.below
  rw [List.filter_filter, List.filter_filter]
  congr 1
  exact List.filter_congr fun z _ => Bool.and_comm _ _
theorem order_before (hS : S.Fine) (k : IK) (h : S.before k ≠ 0) : ∃ a, S.order = a ++ S.before k :: S.rest k ∧ S.below k = a ++ [S.before k] := by
  have hne : S.below k ≠ [] := by
    intro e
    exact h (by unfold SL.before; rw [e]; rfl)
  obtain ⟨a, e⟩ := lastOf_split hne
  refine ⟨a, ?_, e⟩
  have := S.part hS k
  rw [this]
  show S.below k ++ S.rest k = a ++ lastOf (S.below k) :: S.rest k
  generalize lastOf (S.below k) = z at *
  rw [e]; simp
theorem before_zero (hS : S.Fine) (k : IK) (h : S.before k = 0) : S.below k = [] := by
  cases hb : S.below k with
  | nil => rfl
  | cons z l =>
    exfalso
    have hne : S.below k ≠ [] := by rw [hb]; simp
    have := (hS.mem _ (SL.mem_below (lastOf_mem hne)).1).1
    have : lastOf (S.below k) = 0 := h
    omega
end

end Go.Proofs.Ytehfcafmdnfamaa.G

/- Contracts typed by hand: a skiplist in memory: Insert, whatever it answers (values: whole numbers) -/
namespace Go.Proofs.Ytehfcafmdnfamaa.G
open Go.RowKit Go.Proofs.YtehfcafmdnfamaaW.PrintWords Go.Proofs.YtehfcafmdnfamaaW.PrintLast Go.Proofs.YtehfcafmdnfamaaW.PrintMore
attribute [local go_sem] max2_int min2_int max_two min_two max_three min_three max_four min_four
set_option linter.unusedVariables false
set_option linter.unusedSimpArgs false

/-! a skiplist in memory: Insert, whatever it answers (values: whole numbers) -/
/-- what an Insert may turn: the list itself and its nodes -/
def Turns (w : World) (g base : Nat) (i : Nat) : Prop := i = g ∨ (base ≤ i ∧ ∃ cs, w.heap[i]? = some (.cells cs 84 (0, 0)))
/-- a list that stands somewhere in memory, and all that may lie beside it -/
theorem sk_insert (g base most : Nat) (S : SL Int) (k : IK) (v : Int) (hh : Int) (w : World) (h : SkAt w g base S most) :
    Calls Try.prog 13 #[.pointer (some ⟨g, 0, none⟩), .agg #[.string k.1, .int .u64 k.2.1, .int .i64 k.2.2], encV_ v, .int .i64 hh] w fun e w' => e = .returned (.int .i64 (insC S most k hh)) ∧ SkAt w' g base (insS S most k v hh) most ∧ Below base w w' ∧ Kept w w' (Turns w g base) := by
  have hbg : base ≤ g := by obtain ⟨_, _, _, _, _, _, _, hb, _⟩ := h; exact hb
  have hgw := h.lt
  have keep : ∀ (c : Int), c ≠ 0 → insC S most k hh = c → ∀ (e : Ending) (w' : World), e = .returned (.int .i64 c) ∧ Below w.heap.size w w' → e = .returned (.int .i64 (insC S most k hh)) ∧ SkAt w' g base (insS S most k v hh) most ∧ Below base w w' ∧ Kept w w' (Turns w g base) := by
    rintro c hc hi e w' ⟨rfl, hb⟩
    refine ⟨by rw [hi], ?_, ⟨hb.os, hb.tape, hb.output, hb.size, fun q hq => hb.block q (by omega)⟩, Kept.of_below hb _⟩
    unfold insS
    rw [if_neg (by rw [hi]; exact hc)]
    exact h.below hb
  have hv := vk_eq k
  cases hvk : vk k with
  | false =>
    rw [hvk] at hv
    exact (sk_ins30 g base most S k v hh w h hv).mono (keep 30 (by omega) (by unfold insC; rw [if_pos hvk]))
  | true =>
    rw [hvk] at hv
    by_cases c1 : hh < 1
    · exact (sk_ins2 g base most S k v hh w h hv c1).mono (keep 2 (by omega) (by unfold insC; rw [if_neg (by rw [hvk]; simp), if_pos (Or.inl c1)]))
    by_cases c2 : 12 < hh
    · exact (sk_ins2h g base most S k v hh w h hv c2).mono (keep 2 (by omega) (by unfold insC; rw [if_neg (by rw [hvk]; simp), if_pos (Or.inr c2)]))
    have hr : ¬ (hh < 1 ∨ 12 < hh) := by omega
    by_cases c3 : S.seek k = 0
    · have hf : S.find k = 0 := by unfold SL.find; rw [if_neg (by rintro ⟨h1, _⟩; exact h1 c3)]
      by_cases c5 : most ≤ S.nodes.length
      · exact (sk_ins82z g base most S k v hh w h hv (by omega) (by omega) c3 c5).mono (keep 82 (by omega) (by unfold insC; rw [if_neg (by rw [hvk]; simp), if_neg hr, if_neg (by rw [hf]; simp), if_pos c5]))
      · have hi : insC S most k hh = 0 := by unfold insC; rw [if_neg (by rw [hvk]; simp), if_neg hr, if_neg (by rw [hf]; simp), if_neg c5]
        obtain ⟨h0, rfl⟩ := Int.eq_ofNat_of_zero_le (show 0 ≤ hh by omega)
        refine (sk_ins0z g base most S k v h0 w h hv (by omega) (by omega) c3 (by omega)).mono ?_
        rintro e w' ⟨rfl, h1, h2, h3⟩
        refine ⟨by rw [hi], ?_, h2, h3⟩
        unfold insS
        rw [if_pos hi, Int.toNat_natCast]
        exact h1
    · by_cases c4 : S.key (S.seek k) = k
      · have hf : S.find k = S.seek k := by unfold SL.find; rw [if_pos ⟨c3, c4⟩]
        exact (sk_ins81 g base most S k v hh w h hv (by omega) (by omega) _ rfl c3 c4).mono (keep 81 (by omega) (by unfold insC; rw [if_neg (by rw [hvk]; simp), if_neg hr, if_pos (by rw [hf]; exact c3)]))
      · have hf : S.find k = 0 := by unfold SL.find; rw [if_neg (by rintro ⟨_, h1⟩; exact c4 h1)]
        by_cases c5 : most ≤ S.nodes.length
        · exact (sk_ins82n g base most S k v hh w h hv (by omega) (by omega) _ rfl c3 c4 c5).mono (keep 82 (by omega) (by unfold insC; rw [if_neg (by rw [hvk]; simp), if_neg hr, if_neg (by rw [hf]; simp), if_pos c5]))
        · have hi : insC S most k hh = 0 := by unfold insC; rw [if_neg (by rw [hvk]; simp), if_neg hr, if_neg (by rw [hf]; simp), if_neg c5]
          obtain ⟨h0, rfl⟩ := Int.eq_ofNat_of_zero_le (show 0 ≤ hh by omega)
          refine (sk_ins0n g base most S k v h0 w h hv (by omega) (by omega) _ rfl c3 c4 (by omega)).mono ?_
          rintro e w' ⟨rfl, h1, h2, h3⟩
          refine ⟨by rw [hi], ?_, h2, h3⟩
          unfold insS
          rw [if_pos hi, Int.toNat_natCast]
          exact h1
/-- a block of another type stays -/
theorem turns_blk {w w' : World} {g base most : Nat} {S : SL Int} (hk : Kept w w' (Turns w g base)) (h : SkAt w g base S most) {i : Nat} {cs : Array Value} {t : TypeId} {m : Nat × Nat} (hi : w.heap[i]? = some (.cells cs t m)) (h1 : t ≠ 78) (h2 : t ≠ 84) : w'.heap[i]? = some (.cells cs t m) := by
  refine (hk.2 i (blk_lt hi) ?_).trans hi
  rintro (rfl | ⟨_, cs', hc⟩)
  · obtain ⟨b, c, ns, hb, _⟩ := h
    rw [hb] at hi
    injection hi with hi
    injection hi with _ hi _
    exact h1 hi.symm
  · rw [hc] at hi
    injection hi with hi
    injection hi with _ hi _
    exact h2 hi.symm
theorem turns_ints {w w' : World} {g base most b2 : Nat} {S : SL Int} {v : Value} {l : List Int} (hk : Kept w w' (Turns w g base)) (h : SkAt w g base S most) (hr : Kd.R (Kd.int .i64) 3 w b2 (fun _ => True) v l) : Kd.R (Kd.int .i64) 3 w' b2 (fun _ => True) v l := by
  obtain ⟨h0, inner, ho, hrr⟩ := hr
  refine ⟨h0, inner, own_move ho fun q hq => ?_, hrr.imp_ (fun _ _ hp => hp)⟩
  obtain ⟨cs, hc⟩ := own_typed ho q hq
  rw [turns_blk hk h hc (by decide) (by decide), hc]
theorem Turns.le {w : World} {g base i : Nat} (h : Turns w g base i) (hg : base ≤ g) : base ≤ i := by
  rcases h with rfl | h
  · exact hg
  · exact h.1
/-- another list stays -/
theorem SkAt.other {w w' : World} {g base most g2 base2 most2 : Nat} {S S2 : SL Int} (h : SkAt w g2 base2 S2 most2) (hk : Kept w w' (Turns w g base)) (ho : SkAt w g base S most) (hlt : base2 ≤ base) (hsep : ∃ N, base = N ∧ g2 < N ∧ ∀ b c n, w.cell? ⟨g2, 0, none⟩ = some (.slice (some ⟨b, 0, none⟩) n c) → b < N) : SkAt w' g2 base2 S2 most2 := by
  obtain ⟨N, rfl, hg, hb⟩ := hsep
  obtain ⟨b, c, ns, h1, h2, h3⟩ := h
  have hbg : base ≤ g := by obtain ⟨_, _, _, _, _, _, _, hb, _⟩ := ho; exact hb
  have hbb := hb b c ns.length ((blk_cell h1 0).trans rfl)
  refine ⟨b, c, ns, (hk.2 g2 (blk_lt h1) fun ht => ?_).trans h1, ndR_move h2 fun q hq => ?_, h3⟩
  · have := ht.le hbg; omega
  · have : b = q := by simpa [Value.ownBlock] using hq
    subst this
    refine hk.2 b ?_ fun ht => ?_
    · obtain ⟨inner, hown⟩ := Kd.R_own h2
      obtain ⟨cs, hc⟩ := own_typed hown b rfl
      exact blk_lt hc
    · have := ht.le hbg; omega

end Go.Proofs.Ytehfcafmdnfamaa.G

/- Contracts typed by hand: a skiplist in memory: All, its iterator (values: whole numbers) -/
namespace Go.Proofs.Ytehfcafmdnfamaa.G
open Go.RowKit Go.Proofs.YtehfcafmdnfamaaW.PrintWords Go.Proofs.YtehfcafmdnfamaaW.PrintLast Go.Proofs.YtehfcafmdnfamaaW.PrintMore
attribute [local go_sem] max2_int min2_int max_two min_two max_three min_three max_four min_four
set_option linter.unusedVariables false
set_option linter.unusedSimpArgs false

/-! a skiplist in memory: All, its iterator (values: whole numbers) -/
open Go.Shelf
attribute [local go_sem] Oper.semAt_some
def ordI {V : Type} (S : SL V) : List Int := S.order.map fun z : Nat => (z : Int)
/-- an iterator's boxes: the list, the order -/
structure AllAt (w : World) (n g : Nat) (v : Value) (l : List Int) : Prop where
  lst : w.heap[n]? = some (.cells #[.pointer (some ⟨g, 0, none⟩)] 23 (0, 0))
  box : w.heap[n + 1]? = some (.cells #[v] 28 (0, 0))
  row : Kd.R (Kd.int .i64) 3 w n (fun _ => True) v l
theorem intR_move {w w1 : World} {base : Nat} {v : Value} {l : List Int} (h : Kd.R (Kd.int .i64) 3 w base (fun _ => True) v l) (hm : ∀ k, v.ownBlock = some k → w1.heap[k]? = w.heap[k]?) : Kd.R (Kd.int .i64) 3 w1 base (fun _ => True) v l := by
  obtain ⟨h0, inner, ho, hr⟩ := h
  exact ⟨h0, inner, own_move ho hm, hr.imp_ (fun _ _ hp => hp)⟩
theorem AllAt.below {w w1 : World} {n g : Nat} {v : Value} {l : List Int} (h : AllAt w n g v l) (hb : Below w.heap.size w w1) : AllAt w1 n g v l :=
  ⟨(hb.block _ (blk_lt h.lst)).trans h.lst, (hb.block _ (blk_lt h.box)).trans h.box, Kd.R_below h.row hb⟩
set_option maxHeartbeats 8000000 in
set_option maxRecDepth 100000 in
theorem sk_all (g base most : Nat) (S : SL Int) (w : World) (h : SkAt w g base S most) : Calls Try.prog 15 #[.pointer (some ⟨g, 0, none⟩)] w fun e w' => ∃ v, e = .returned (.func (.func 45) #[] #[.pointer (some ⟨w.heap.size + 1, 0, none⟩), .pointer (some ⟨w.heap.size, 0, none⟩)]) ∧ AllAt w' w.heap.size g v (ordI S) ∧ Below w.heap.size w w' := by
  have HS := Aside0.mk h.fine
  have HSK := Aside0.mk (fun W (hb : Below w.heap.size w W) => h.below hb)
  obtain ⟨W0, hW0⟩ : ∃ W0, (w.alloc (.cells #[.pointer (some ⟨g, 0, none⟩)] 23)).alloc (.cells #[.slice none 0 0] 28) = W0 := ⟨_, rfl⟩
  have hx1 := World.alloc_heap_new (w.alloc (.cells #[.pointer (some ⟨g, 0, none⟩)] 23)) (.cells #[.slice none 0 0] 28)
  have hx0 := World.alloc_heap_new w (.cells #[.pointer (some ⟨g, 0, none⟩)] 23)
  rw [World.size_alloc, hW0] at hx1
  have hx0' : W0.heap[w.heap.size]? = some (.cells #[.pointer (some ⟨g, 0, none⟩)] 23 (0, 0)) := by rw [← hW0]; exact (Below.heap_alloc _ _ _ (by rw [World.size_alloc]; omega)).trans hx0
  have HX0 := Aside0.mk hx0'
  have HX1 := Aside0.mk hx1
  have HB := Aside0.mk (show Below w.heap.size w W0 by rw [← hW0]; exact below_alloc (below_alloc (Below.refl _ _) _) _)
  have HW := Aside0.mk hW0
  have HLO := Aside0.mk (show S.order.length ≤ 1048576 by rw [h.fine.1.len]; exact h.fine.2.1)
  obtain ⟨z0, hz0⟩ : ∃ z0, S.order.headD 0 = z0 := ⟨_, rfl⟩
  have HF := Aside0.mk (sk_first g base most S W0 (HSK.out _ HB.out))
  rw [hz0] at HF
  have HZ0 := Aside0.mk hz0
  clear h hx0 hx1 hx0' hW0 hz0
  go_enter Try.func15, Try.ntmps15
  go_wp2_with fail
  rw [HW.out]
  (with_reducible refine HF.out.mono ?_)
  rintro e w1 ⟨rfl, rfl⟩
  go_wp2_with fail
  clear HF HW
  go_loopg [4] (1 + S.order.length) (fun kq v4 wr => ∃ (a d : List Nat) (z : Nat) (v : Value), v4 = .int .i64 (z : Int) ∧ d.length < kq ∧ Aside0 (d.headD 0 = z) ∧ Aside0 (S.order = a ++ d) ∧ Aside0 (wr.heap[w.heap.size]? = some (.cells #[.pointer (some ⟨g, 0, none⟩)] 23 (0, 0))) ∧ Aside0 (wr.heap[w.heap.size + 1]? = some (.cells #[v] 28 (0, 0))) ∧ Aside0 (Kd.R (Kd.int .i64) 3 wr w.heap.size (fun _ => True) v (a.map fun z : Nat => (z : Int))) ∧ Aside0 (Below w.heap.size w wr))
  case atStart => exact ⟨[], S.order, z0, _, rfl, by omega, HZ0, ⟨rfl⟩, HX0, HX1, ⟨Kd.R_nil _ _ _ _ _⟩, HB⟩
  case round =>
    clear HB HX0 HX1
    obtain ⟨a, d, z, v, rfl, hkq, HZ, HO, HX0, HX1, HR, HB⟩ := hrel
    cases gk with
    | zero => omega
    | succ gk1 =>
    cases d with
    | nil =>
      obtain rfl : 0 = z := HZ.out
      have HE := Aside0.mk (show ordI S = a.map (fun z : Nat => (z : Int)) by unfold ordI; rw [HO.out, List.append_nil])
      go_wp2
      go_ret
      exact ⟨_, rfl, ⟨HX0.out, HX1.out, by rw [HE.out]; exact HR.out⟩, HB.out⟩
    | cons z1 d2 =>
      obtain rfl : z1 = z := HZ.out
      have hzm := HS.out.1.mem z1 (by rw [HO.out]; simp)
      have hzb : z1 ≤ 1048576 := by have := HS.out.2.1; omega
      have b3 : ((z1 : Int) == 0) = false := by simp; omega
      have b4 : ((z1 : Int) != 0) = true := by simp; omega
      have hd2 : d2.length < gk1 := by simpa using hkq
      have HLN := Aside0.mk (show (a.map fun z : Nat => (z : Int)).length ≤ 1048576 by
        have h4 := HLO.out
        rw [HO.out, List.length_append] at h4
        rw [List.length_map]
        omega)
      have y0 := blk_cell HX0.out 0
      have y1 := blk_cell HX1.out 0
      clear hzm
      go_wp2_with (first | ((with_reducible refine gate_builtin (b := .append) (xs := #[.tmp 12, .tmp 14]) rfl ?_); at_builtin; refine Kd.R_append (Kd.int .i64) (w0 := w) w.heap.size rfl (.tmp 12) (.tmp 14) 28 3 (.int .i64 0) 8 rfl Try.underlying28 info3 rfl (by decide) (by omega) v (a.map (fun z : Nat => (z : Int))) ((z1 : Int)) [.int .i64 ((z1 : Int))] (fun _ => True) (fun _ => False) rfl rfl ?aP (fun _ hk => hk.elim) ?aF ?aO ?aB ?aS ?aL ?_; (case aP => exact rfl); (case aB => exact (by repeat (first | (with_reducible first | exact HB.out | apply below_alloc | apply pw_below_drewN | apply below_drew1) | exact HB.out))); (case aF => exact (fun _ _ => trivial)); (case aO => exact (by (with_reducible repeat (first | apply Kd.R_alloc | apply Kd.R_drewN | apply Kd.R_drew)); exact HR.out)); (case aS => exact (below_size (by repeat (first | (with_reducible first | exact HB.out | apply below_alloc | apply pw_below_drewN | apply below_drew1) | exact HB.out)))); (case aL => have := HLN.out; omega); intro vN wN ho hb hg hat; have HRN := Aside0.mk ho; have HBN := Aside0.mk hb; obtain ⟨gN, cN, hvN, _⟩ := Kd.R_form HRN.out (by simp); generalize (a.map (fun z : Nat => (z : Int)) ++ [(z1 : Int)]).length = nN at hvN; subst hvN; have HX0N := Aside0.mk ((hg.block _ (blk_lt HX0.out) (Kd.R_ne HR.out HX0.out (by decide))).trans HX0.out); have HX1N := Aside0.mk ((hg.block _ (blk_lt HX1.out) (Kd.R_ne HR.out HX1.out (by decide))).trans HX1.out); have t0 := (blk_cell HX0N.out 0).trans (show _ = some (.pointer (some ⟨g, 0, none⟩)) from rfl); have t1 := (blk_cell HX1N.out 0).trans (show _ = some v from rfl); have f1 := blk_frozen HX1N.out 0; clear HX0 HX1 y0 y1; clear HR HB ho hb hg hat))
      obtain ⟨w4, hw⟩ : ∃ w4, wN.setCell ⟨w.heap.size + 1, 0, none⟩ (.slice (some ⟨gN, 0, none⟩) nN cN) = w4 := ⟨_, rfl⟩
      rw [hw]
      have HX04 := Aside0.mk (show w4.heap[w.heap.size]? = some (.cells #[.pointer (some ⟨g, 0, none⟩)] 23 (0, 0)) by rw [← hw]; exact (Below.heap_setCell _ _ _ _ (by show w.heap.size ≠ w.heap.size + 1; omega)).trans HX0N.out)
      have HX14 := Aside0.mk (show w4.heap[w.heap.size + 1]? = some (.cells #[.slice (some ⟨gN, 0, none⟩) nN cN] 28 (0, 0)) by rw [← hw]; exact blk_set HX1N.out 0 _)
      have HR4 := Aside0.mk (show Kd.R (Kd.int .i64) 3 w4 w.heap.size (fun _ => True) (.slice (some ⟨gN, 0, none⟩) nN cN) (a.map (fun z : Nat => (z : Int)) ++ [(z1 : Int)]) by rw [← hw]; exact intR_move HRN.out (fun q hq => Below.heap_setCell _ _ _ _ (fun e => Kd.R_ne HRN.out HX1N.out (by decide) (by rw [hq]; exact congrArg some e.symm))))
      have HB4 := Aside0.mk (show Below w.heap.size w w4 by rw [← hw]; exact HBN.out.setCell (Nat.le_succ _) _)
      clear hw t0 t1 f1 HX0N HX1N HRN HBN
      (with_reducible refine (sk_next g base most S a d2 z1 _ (HSK.out _ HB4.out) HO.out).mono ?_)
      rintro e w5 ⟨rfl, rfl⟩
      go_wp2
      go_roundg gk1
      case measure => omega
      case rel => exact ⟨a ++ [z1], d2, _, _, rfl, hd2, ⟨by simp⟩, ⟨by rw [HO.out]; simp⟩, HX04, HX14, ⟨by rw [List.map_append]; exact HR4.out⟩, HB4⟩
/-- all that stood in a list stands in a later one -/
structure Ext (S T : SL Int) : Prop where
  len : S.nodes.length ≤ T.nodes.length
  key : ∀ z, 1 ≤ z → z ≤ S.nodes.length → T.key z = S.key z
theorem Ext.refl (S : SL Int) : Ext S S := ⟨Nat.le_refl _, fun _ _ _ => rfl⟩
theorem Ext.trans {S T U : SL Int} (h : Ext S T) (k : Ext T U) : Ext S U := ⟨Nat.le_trans h.len k.len, fun z h1 h2 => (k.key z h1 (Nat.le_trans h2 h.len)).trans (h.key z h1 h2)⟩
theorem Ext.ins (S : SL Int) (most : Nat) (k : IK) (v : Int) (hh : Int) : Ext S (insS S most k v hh) := by
  unfold insS
  split
  · exact ⟨by simp [SL.put], fun z h1 h2 => S.key_put k v _ h1 h2⟩
  · exact Ext.refl S
def elems (S : SL Int) : List (Nat × IK) := S.order.map fun z => (z, S.key z)
def encE (x : Nat × IK) : Array Value := #[.int .i64 (x.1 : Int), .agg #[.string x.2.1, .int .u64 x.2.2.1, .int .i64 x.2.2.2]]
theorem elems_len (S : SL Int) : (elems S).length = S.order.length := List.length_map _
theorem elems_at (S : SL Int) {i : Nat} (h : i < S.order.length) : (elems S).take (i + 1) = (elems S).take i ++ [(S.order[i], S.key S.order[i])] := by
  have h' : i < (elems S).length := by rw [elems_len]; exact h
  rw [List.take_add_one, List.getElem?_eq_getElem h']
  simp [elems]
/-- what a round of the iterator reads -/
def ReadAt (W : World) (n g base most : Nat) (v : Value) (S : SL Int) : Prop := AllAt W n g v (ordI S) ∧ ∃ T, SkAt W g base T most ∧ Ext S T
set_option maxHeartbeats 8000000 in
set_option maxRecDepth 100000 in
theorem all1_in (l n g base most : Nat) (v : Value) (S : SL Int) (hS : S.Fine ∧ S.nodes.length ≤ 1048576) (Kp : World → World → Prop) (hKt : ∀ {A B C : World}, Kp A B → Kp B C → Kp A C) (J Jx : List (Nat × IK) → World → Prop) (W : World) (hK0 : Kp W W)
    (hread : ∀ W', Kp W W' → ReadAt W' n g base most v S)
    (hY : ∀ pre x W1, J pre W1 → pre.length < (elems S).length → YieldAt Fence.wide 1 Try.prog l (encE x) W1 fun e W' =>
      (e = .returned (.bool true) ∧ J (pre ++ [x]) W' ∧ Kp W1 W') ∨ (e = .returned (.bool false) ∧ Jx (pre ++ [x]) W'))
    (h0 : J [] W) :
    CallsIn Fence.wide 2 Try.prog 45 #[.func (.yield l) #[] #[], .pointer (some ⟨n + 1, 0, none⟩), .pointer (some ⟨n, 0, none⟩)] W fun e W' => (∃ v, e = .returned v) ∧
      ((∃ ys, ys = elems S ∧ J ys W') ∨ (∃ pre, pre <+: elems S ∧ Jx pre W')) := by
  have HREAD := Aside0.mk hread
  have HY := Aside0.mk hY
  have HS := Aside0.mk hS
  have HKT := Aside0.mk @hKt
  have H0 := Aside0.mk h0
  have HK0 := Aside0.mk hK0
  obtain ⟨Ax, cx, hv, hcl, _⟩ := Kd.R_reads (hread W hK0).1.row
  have hq := blk_cell (hread W hK0).1.box 0
  have hol : (ordI S).length = S.order.length := List.length_map _
  rw [hol] at hv
  subst hv
  obtain ⟨m, hm⟩ : ∃ m, S.order.length = m := ⟨_, rfl⟩
  rw [hm] at hq
  have HM := Aside0.mk hm
  have hmb : m ≤ 1048576 := by rw [← hm, hS.1.len]; exact hS.2
  have hq0 : W.cell? ⟨n + 1, 0, none⟩ = some (.slice Ax m cx) := hq
  clear hread hY h0 hK0 hq hcl hol hm hS hKt
  refine callsIn_of_wp Try.func45 rfl trivial ?_ rfl
  simp only [Try.ntmps45, List.size_toArray, List.length_cons, List.length_nil, Nat.reduceAdd, Nat.reduceSub, Array.replicate_succ, Array.replicate_zero, List.push_toArray, List.append_toArray, List.nil_append, List.cons_append]
  gi_wp2_with fail
  gi_loopw [5, 8] (fun _ v8 wr => ∃ (i : Nat), v8 = .int .i64 (i : Int) ∧ i ≤ m ∧ Aside0 (J ((elems S).take i) wr) ∧ Aside0 (Kp W wr)) (fun _ v8 _ => m - (intOf v8).toNat)
  case atStart => exact ⟨0, rfl, by omega, ⟨by rw [List.take_zero]; exact H0.out⟩, HK0⟩
  case round =>
    clear H0 HK0 hq0
    obtain ⟨i, rfl, hi, HJ, HK⟩ := hrel
    by_cases hlt : i < m
    · have b1 : decide ((i : Int) < (m : Int)) = true := decide_eq_true (by omega)
      have hio : i < S.order.length := by rw [HM.out]; exact hlt
      obtain ⟨hA, T, hT, hE⟩ := HREAD.out wr HK.out
      obtain ⟨ob, oc, hob, _⟩ := Kd.R_form hA.row (by unfold ordI; rw [List.length_map]; omega)
      have hol : (ordI S).length = S.order.length := List.length_map _
      have hrow := hA.row
      injection hob with hob1 _ hob2
      subst hob1 hob2
      have r0 := (Kd.R_celln (0 : Int) hrow (i : Int) (by omega) (by rw [HM.out]; omega)).1
      have hrd : rdOf (0 : Int) (ordI S) (i : Int) = ((S.order[i] : Nat) : Int) := by
        unfold rdOf ordI
        simp [hio]
      rw [hrd, Int.toNat_natCast] at r0
      have hsn := elems_at S hio
      have hzm := HS.out.1.mem _ (List.getElem_mem hio)
      have hkey := hE.key _ hzm.1 hzm.2
      have hel := hE.len
      obtain ⟨z, hz⟩ : ∃ z, S.order[i] = z := ⟨_, rfl⟩
      rw [hz] at r0 hsn hzm hkey
      rw [← hkey] at hsn
      have hTl := hT.fine.2.1
      obtain ⟨b, c, ns, t1, _, _, t4, _⟩ := hT.reads
      obtain ⟨k0, k1, k2, _⟩ := t4 z hzm.1 (by omega)
      have q0 : wr.cell? ⟨g, 0, none⟩ = some (.slice (some ⟨b, 0, none⟩) (T.nodes.length + 1) c) := (blk_cell t1 0).trans rfl
      have p0 := blk_cell hA.lst 0
      obtain ⟨N, hN⟩ : ∃ N, T.nodes.length + 1 = N := ⟨_, rfl⟩
      rw [hN] at q0
      have hzN : z < N := by omega
      have hNb : N ≤ 1048577 := by omega
      obtain ⟨⟨ks, kn, kd⟩, hkk⟩ : ∃ kk, T.key z = kk := ⟨_, rfl⟩
      rw [hkk] at hsn k0 k1 k2
      have HSN := Aside0.mk hsn
      have hpl : ((elems S).take i).length < (elems S).length := by rw [List.length_take, elems_len]; omega
      obtain ⟨fn, tmps, assign, body, hy, hR2⟩ := HY.out ((elems S).take i) (z, ks, kn, kd) wr HJ.out hpl
      simp only [encE] at hy
      have ew : wrap64 ((i : Int) + 1) = ((i + 1 : Nat) : Int) := by unfold wrap64; omega
      have HEW := Aside0.mk ew
      clear hA hT hE hol hrow hrd hsn hzm hkey hel hz hTl t1 t4 hN hkk hpl ew
      gi_wp2
      refine hR2.mono ?_
      rintro e W3 (⟨rfl, hJ4, hk4⟩ | ⟨rfl, hJx4⟩)
      · have HJ4 := Aside0.mk hJ4
        have HK4 := Aside0.mk (HKT.out HK.out hk4)
        have hi1 : (i : Int) + 1 ≤ 1048576 := by omega
        clear hJ4 hk4 hR2 hy
        gi_wp2
        go_roundw
        case rel => exact ⟨i + 1, by go_num, by omega, ⟨by rw [HSN.out]; exact HJ4.out⟩, HK4⟩
        case measure => simp only [intOf]; omega
      · have HL4 := Aside0.mk (show ((elems S).take i ++ [(z, ks, kn, kd)]) <+: elems S by rw [← HSN.out]; exact List.take_prefix _ _)
        have HJX := Aside0.mk hJx4
        clear hJx4
        gi_wp2
        refine bodyPost_ret (results_none rfl _ _ _) rfl ?_
        exact ⟨⟨_, rfl⟩, .inr ⟨_, HL4.out, HJX.out⟩⟩
    · obtain rfl : i = m := by omega
      have b1 : decide ((i : Int) < (i : Int)) = false := decide_eq_false (by omega)
      have HJ3 := Aside0.mk (show J (elems S) wr by have := HJ.out; rwa [List.take_of_length_le (by rw [elems_len, HM.out]; exact Nat.le_refl _)] at this)
      clear HJ
      gi_wp2
      go_end0
      exact ⟨⟨_, rfl⟩, .inl ⟨_, rfl, HJ3.out⟩⟩

end Go.Proofs.Ytehfcafmdnfamaa.G

/- Printed by the session's program over the kit's print, out of the translation: functions as plain Lean functions, and the proofs that the calls come to them. -/
namespace Go.Proofs.Ytehfcafmdnfamaa.G
open Go.RowKit Go.Proofs.YtehfcafmdnfamaaW.PrintWords Go.Proofs.YtehfcafmdnfamaaW.PrintLast Go.Proofs.YtehfcafmdnfamaaW.PrintMore
attribute [local go_sem] max2_int min2_int max_two min_two max_three min_three max_four min_four   -- for this text's walks alone
set_option linter.unusedVariables false
set_option linter.unusedSimpArgs false

/-! ### morainelaw08_key: function 46 -/
def morainelaw08_key.f (a0 : ByteArray) (a1 : Int) : Option (ByteArray × Int × Int) := some (a0, a1, 1)
set_option maxHeartbeats 8000000 in
set_option maxRecDepth 100000 in
theorem morainelaw08_key.calls (a0 : ByteArray) (a1 : Int) (r1 : ByteArray) (r2 : Int) (r3 : Int) (w : World) (h : morainelaw08_key.f a0 a1 = some (r1, r2, r3)) :
    Calls Try.prog 46 #[.string a0, .int .u64 a1] w fun e w' => e = .returned (.agg #[.string r1, .int .u64 r2, .int .i64 r3]) ∧ Below w.heap.size w w' := by
  have hu37 := Try.underlying37
  have HB := Aside0.mk (Below.refl w.heap.size w)
  have H : (some (a0, a1, 1)) = some (r1, r2, r3) := h
  clear h
  simp only [Option.some.injEq, Prod.mk.injEq] at H
  obtain ⟨rfl, rfl, rfl⟩ := H
  go_enter Try.func46, Try.ntmps46
  go_wp2_with (first | ((with_reducible refine gate_dst (N := 4) rfl ?_); refine box_event ?hg (N := 4) ?hd (cs := #[.string (⟨#[]⟩ : ByteArray), .int .u64 0, .int .i64 0]) (t := 37) ?hr ?_; (case hd => rfl); (case hg => rfl); (case hr => first | (go_simp; done) | (go_simp; rfl)); intro gb119 hg w3 hbox hb; have n0_ := Aside0.mk (below_step (by repeat (first | (with_reducible first | exact HB.out | apply below_alloc | apply pw_below_drewN | apply below_drew1) | exact HB.out)) hb); have n1_ := Aside0.mk (hbox); have n2_ := Aside0.mk ((by rw [hg]; exact (below_size (by repeat (first | (with_reducible first | exact HB.out | apply below_alloc | apply pw_below_drewN | apply below_drew1) | exact HB.out))) : w.heap.size ≤ gb119)); have n3_ := Aside0.mk ((by rw [hg]; exact (below_size (by repeat (first | (with_reducible first | exact HB.out | apply below_alloc | apply pw_below_drewN | apply below_drew1) | exact HB.out))) : w.heap.size ≤ gb119)); clear HB; have HB := n0_; have BK119 := n1_; have GW119 := n2_; have GE119 := n3_; clear n0_ n1_ n2_ n3_; clear hb hbox hg; have hcz4_0 : w3.cell? ⟨gb119, 0, none⟩ = some (.string (⟨#[]⟩ : ByteArray)) := (blk_cell BK119.out 0).trans rfl; have hcz4_1 : w3.cell? ⟨gb119, 1, none⟩ = some (.int .u64 0) := (blk_cell BK119.out 1).trans rfl; have hcz4_2 : w3.cell? ⟨gb119, 2, none⟩ = some (.int .i64 0) := (blk_cell BK119.out 2).trans rfl; have hfz4_0 := blk_frozen BK119.out 0; have hfz4_1 := blk_frozen BK119.out 1; have hfz4_2 := blk_frozen BK119.out 2))
  refine bodyPost_ret (results_cell_row rfl _ _ gb119 37 #[.string a0, .int .u64 a1, .int .i64 1] (0, 0) _ rfl (by (with_reducible repeat (first | refine blk_drewN ?_ _ | refine blk_drew ?_ | refine blk_alloc ?_ _)); refine blk_put (cs := #[.string a0, .int .u64 a1, .int .i64 0]) ?_ 2 _ rfl; (with_reducible repeat (first | refine blk_drewN ?_ _ | refine blk_drew ?_ | refine blk_alloc ?_ _)); refine blk_put (cs := #[.string a0, .int .u64 0, .int .i64 0]) ?_ 1 _ rfl; (with_reducible repeat (first | refine blk_drewN ?_ _ | refine blk_drew ?_ | refine blk_alloc ?_ _)); refine blk_put (cs := #[.string (⟨#[]⟩ : ByteArray), .int .u64 0, .int .i64 0]) ?_ 0 _ rfl; (with_reducible repeat (first | refine blk_drewN ?_ _ | refine blk_drew ?_ | refine blk_alloc ?_ _)); exact BK119.out) Try.underlying37 rfl (by kernel_rfl)) rfl ?_
  exact ⟨by first | rfl | (simp [errW_none, errW_some] <;> rfl) | (simp [*, errW_none, errW_some] <;> rfl), by repeat (first | (with_reducible first | exact HB.out | apply below_alloc | apply pw_below_drewN | apply below_drew1 | refine below_set ?_ GE119.out) | exact HB.out)⟩

end Go.Proofs.Ytehfcafmdnfamaa.G

/- Printed by the session's program over the kit's print, out of the translation: functions as plain Lean functions, and the proofs that the calls come to them. -/
namespace Go.Proofs.Ytehfcafmdnfamaa.G
open Go.RowKit Go.Proofs.YtehfcafmdnfamaaW.PrintWords Go.Proofs.YtehfcafmdnfamaaW.PrintLast Go.Proofs.YtehfcafmdnfamaaW.PrintMore
attribute [local go_sem] max2_int min2_int max_two min_two max_three min_three max_four min_four   -- for this text's walks alone
set_option linter.unusedVariables false
set_option linter.unusedSimpArgs false

/-! ### morainelaw08_among: function 30 -/
def morainelaw08_among.f (a0 : Int) (a1 : Int) : Option (Int) := if a1 = 0 then (none) else (some (Int.tmod (wrap64 ((Int.tmod a0 a1) + a1)) a1))
set_option maxHeartbeats 8000000 in
set_option maxRecDepth 100000 in
theorem morainelaw08_among.calls (a0 : Int) (a1 : Int) (r : Int) (w : World) (h : morainelaw08_among.f a0 a1 = some r) :
    Calls Try.prog 30 #[.int .i64 a0, .int .i64 a1] w fun e w' => e = .returned (.int .i64 r) ∧ Drawn0 w w' := by
  have H : (if a1 = 0 then (none) else (some (Int.tmod (wrap64 ((Int.tmod a0 a1) + a1)) a1))) = some r := h
  clear h
  by_cases c3 : a1 = 0
  · rw [if_pos c3] at H
    exact absurd H (by simp)
  · rw [if_neg c3] at H
    have c3b0 : (a1 == 0) = false := beq_eq_false_iff_ne.mpr c3
    have c3b1 : (a1 != 0) = true := bne_iff_ne.mpr c3
    obtain rfl := Option.some.inj H
    go_enter Try.func30, Try.ntmps30
    go_wp2
    go_ret
    exact ⟨by first | rfl | (simp; done) | (simp [*]; done), by repeat (first | exact Drawn0.refl _ | apply Drawn0.step)⟩

end Go.Proofs.Ytehfcafmdnfamaa.G

/- Printed by the session's program over the kit's print, out of the translation: functions as plain Lean functions, and the proofs that the calls come to them. -/
namespace Go.Proofs.Ytehfcafmdnfamaa.G
open Go.RowKit Go.Proofs.YtehfcafmdnfamaaW.PrintWords Go.Proofs.YtehfcafmdnfamaaW.PrintLast Go.Proofs.YtehfcafmdnfamaaW.PrintMore
attribute [local go_sem] max2_int min2_int max_two min_two max_three min_three max_four min_four   -- for this text's walks alone
set_option linter.unusedVariables false
set_option linter.unusedSimpArgs false

/-! ### morainelaw08_ints: function 20 -/
def morainelaw08_ints.l0 : Nat → List Int → List Int → Int → Option (Bool)
  | 0, _, _, _ => none
  | k + 1, x0, x1, x5 => if x5 < (x0.length : Int) then (if 0 ≤ x5 then (if x5 < (x1.length : Int) then (if (rd x0 x5) = (rd x1 x5) then (morainelaw08_ints.l0 k x0 x1 (wrap64 (x5 + 1))) else (some false)) else (none)) else (none)) else (some true)
def morainelaw08_ints.f (k : Nat) (l0 : List Int) (l1 : List Int) : Option (Bool) := if (l0.length : Int) = (l1.length : Int) then (morainelaw08_ints.l0 k l0 l1 0) else (some false)
theorem morainelaw08_ints.mono_l : ∀ k, (∀ y0 y1 y2, LeO (morainelaw08_ints.l0 k y0 y1 y2) (morainelaw08_ints.l0 (k + 1) y0 y1 y2))
  | 0 => fun _ _ _ r h => by simp [morainelaw08_ints.l0] at h
  | k + 1 => by
    have ih0 := morainelaw08_ints.mono_l k
    · intro y0 y1 y2
      unfold morainelaw08_ints.l0
      repeat' first
      | (with_reducible exact ih0 _ _ _)
      | (with_reducible exact LeO.refl _)
      | (with_reducible exact LeO.none _)
      | (with_reducible refine LeO.ite ?_ ?_)
      | (with_reducible refine LeO.bind ?_ (fun _ => ?_))
      | exact ih0 _ _ _
      | exact LeO.none _
      | refine LeO.ite ?_ ?_
      | refine LeO.bind ?_ (fun _ => ?_)
theorem morainelaw08_ints.mono : ∀ a0 a1 k, LeO (morainelaw08_ints.f k a0 a1) (morainelaw08_ints.f (k + 1) a0 a1) := by
  intro a0 a1 k
  have ih0 := morainelaw08_ints.mono_l k
  unfold morainelaw08_ints.f
  repeat' first
      | (with_reducible exact ih0 _ _ _)
      | (with_reducible exact LeO.refl _)
      | (with_reducible exact LeO.none _)
      | (with_reducible refine LeO.ite ?_ ?_)
      | (with_reducible refine LeO.bind ?_ (fun _ => ?_))
      | exact ih0 _ _ _
      | exact LeO.none _
      | refine LeO.ite ?_ ?_
      | refine LeO.bind ?_ (fun _ => ?_)
set_option maxHeartbeats 8000000 in
set_option maxRecDepth 100000 in
theorem morainelaw08_ints.calls (k : Nat) (A0 : Option Addr) (c0 : Nat) (l0 : List Int) (A1 : Option Addr) (c1 : Nat) (l1 : List Int) (r : Bool) (w : World) (hr0 : Kd.C (Kd.int .i64) w A0 l0.length l0) (hc0 : l0.length ≤ c0) (hr1 : Kd.C (Kd.int .i64) w A1 l1.length l1) (hc1 : l1.length ≤ c1) (h : morainelaw08_ints.f k l0 l1 = some r) :
    Calls Try.prog 20 #[.slice A0 l0.length c0, .slice A1 l1.length c1] w fun e w' => e = .returned (.bool r) ∧ Drawn0 w w' := by
  have HR0 := Aside0.mk hr0
  have HC0 := Aside0.mk hc0
  clear hr0 hc0
  have HR1 := Aside0.mk hr1
  have HC1 := Aside0.mk hc1
  clear hr1 hc1
  have H : (if (l0.length : Int) = (l1.length : Int) then (morainelaw08_ints.l0 k l0 l1 0) else (some false)) = some r := h
  clear h
  by_cases c3 : (l0.length : Int) = (l1.length : Int)
  · rw [if_pos c3] at H
    have c3b0 : ((l0.length : Int) == (l1.length : Int)) = true := beq_iff_eq.mpr c3
    have c3b1 : ((l0.length : Int) != (l1.length : Int)) = false := bne_eq_false_iff_eq.mpr c3
    have c3b2 : (l0.length == l1.length) = true := by first | simpa using c3 | (simp at c3 ⊢; omega)
    clear c3
    have H' := Aside0.mk H
    clear H
    go_enter Try.func20, Try.ntmps20
    go_wp2
    repeat (go_quiet (fail); try go_wp2)
    go_loopg [5] k (fun kq v5 w' => ∃ (x5_1 : Int), v5 = .int .i64 x5_1 ∧ Aside0 (morainelaw08_ints.l0 kq l0 l1 x5_1 = some r) ∧ Aside0 (kq ≤ k) ∧ Drawn0 w w')
    case atStart => exact ⟨(0), (by first | rfl | (simp; done) | (simp [*]; done)), H', ⟨Nat.le_refl _⟩, by repeat (first | exact Drawn0.refl _ | apply Drawn0.step)⟩
    case round =>
      clear H'
      try clear c1
      try clear c2
      try clear p2
      try clear c3
      try clear c3b0
      try clear c3b1
      try clear c3b2
      obtain ⟨x5_1, rfl, HA, HK1, ⟨m1, rfl⟩⟩ := hrel
      cases gk with
      | zero => exact absurd HA.out (by simp [morainelaw08_ints.l0])
      | succ k1 =>
        have H := HA.out
        clear HA
        simp only [morainelaw08_ints.l0] at H
        by_cases c4 : x5_1 < (l0.length : Int)
        · rw [if_pos c4] at H
          have c4b0 : decide (x5_1 < (l0.length : Int)) = true := decide_eq_true c4
          clear c4
          by_cases c5 : 0 ≤ x5_1
          · rw [if_pos c5] at H
            have c5b0 : decide (0 ≤ x5_1) = true := decide_eq_true c5
            clear c5
            by_cases c6 : x5_1 < (l1.length : Int)
            · rw [if_pos c6] at H
              have c6b0 : decide (x5_1 < (l1.length : Int)) = true := decide_eq_true c6
              clear c6
              by_cases c7 : (rd l0 x5_1) = (rd l1 x5_1)
              · rw [if_pos c7] at H
                have c7b0 : ((rd l0 x5_1) == (rd l1 x5_1)) = true := beq_iff_eq.mpr c7
                have c7b1 : ((rd l0 x5_1) != (rd l1 x5_1)) = false := bne_eq_false_iff_eq.mpr c7
                clear c7
                have H' := Aside0.mk H
                clear H
                have p117 : 0 ≤ (x5_1 : Int) := of_decide_eq_true (by first | (with_reducible assumption) | assumption)
                have q117 : x5_1 < (l0.length : Int) := of_decide_eq_true (by first | (with_reducible assumption) | assumption)
                obtain ⟨ad117, e117, hx117_0⟩ := Kd.at_int HR0.out x5_1 p117 q117
                cases e117
                replace p117 := eq_true p117
                replace q117 := eq_true q117
                have p118 : 0 ≤ (x5_1 : Int) := of_decide_eq_true (by first | (with_reducible assumption) | assumption)
                have q118 : x5_1 < (l1.length : Int) := of_decide_eq_true (by first | (with_reducible assumption) | assumption)
                obtain ⟨ad118, e118, hx118_0⟩ := Kd.at_int HR1.out x5_1 p118 q118
                cases e118
                replace p118 := eq_true p118
                replace q118 := eq_true q118
                go_wp2
                repeat (go_quiet (fail); try go_wp2)
                go_roundg k1
                case measure => have := HK1.out; omega
                case rel => exact ⟨(wrap64 (x5_1 + 1)), (by first | rfl | (simp; done) | (simp [*]; done)), H', ⟨by have := HK1.out; omega⟩, by repeat (first | exact Drawn0.refl _ | apply Drawn0.step)⟩
              · rw [if_neg c7] at H
                have c7b0 : ((rd l0 x5_1) == (rd l1 x5_1)) = false := beq_eq_false_iff_ne.mpr c7
                have c7b1 : ((rd l0 x5_1) != (rd l1 x5_1)) = true := bne_iff_ne.mpr c7
                obtain rfl := Option.some.inj H
                have p117 : 0 ≤ (x5_1 : Int) := of_decide_eq_true (by first | (with_reducible assumption) | assumption)
                have q117 : x5_1 < (l0.length : Int) := of_decide_eq_true (by first | (with_reducible assumption) | assumption)
                obtain ⟨ad117, e117, hx117_0⟩ := Kd.at_int HR0.out x5_1 p117 q117
                cases e117
                replace p117 := eq_true p117
                replace q117 := eq_true q117
                have p118 : 0 ≤ (x5_1 : Int) := of_decide_eq_true (by first | (with_reducible assumption) | assumption)
                have q118 : x5_1 < (l1.length : Int) := of_decide_eq_true (by first | (with_reducible assumption) | assumption)
                obtain ⟨ad118, e118, hx118_0⟩ := Kd.at_int HR1.out x5_1 p118 q118
                cases e118
                replace p118 := eq_true p118
                replace q118 := eq_true q118
                go_wp2
                repeat (go_quiet (fail); try go_wp2)
                go_ret
                exact ⟨by first | rfl | (simp; done) | (simp [*]; done), by repeat (first | exact Drawn0.refl _ | apply Drawn0.step)⟩
            · rw [if_neg c6] at H
              exact absurd H (by simp)
          · rw [if_neg c5] at H
            exact absurd H (by simp)
        · rw [if_neg c4] at H
          have c4b0 : decide (x5_1 < (l0.length : Int)) = false := decide_eq_false c4
          clear c4
          obtain rfl := Option.some.inj H
          go_wp2
          repeat (go_quiet (fail); try go_wp2)
          go_ret
          exact ⟨by first | rfl | (simp; done) | (simp [*]; done), by repeat (first | exact Drawn0.refl _ | apply Drawn0.step)⟩
  · rw [if_neg c3] at H
    have c3b0 : ((l0.length : Int) == (l1.length : Int)) = false := beq_eq_false_iff_ne.mpr c3
    have c3b1 : ((l0.length : Int) != (l1.length : Int)) = true := bne_iff_ne.mpr c3
    have c3b2 : (l0.length == l1.length) = false := by first | simpa using c3 | (simp at c3 ⊢; omega)
    obtain rfl := Option.some.inj H
    go_enter Try.func20, Try.ntmps20
    go_wp2
    repeat (go_quiet (fail); try go_wp2)
    go_ret
    exact ⟨by first | rfl | (simp; done) | (simp [*]; done), by repeat (first | exact Drawn0.refl _ | apply Drawn0.step)⟩

end Go.Proofs.Ytehfcafmdnfamaa.G

/- Contracts typed by hand: a skiplist in memory: lists made of puts -/
namespace Go.Proofs.Ytehfcafmdnfamaa.G
open Go.RowKit Go.Proofs.YtehfcafmdnfamaaW.PrintWords Go.Proofs.YtehfcafmdnfamaaW.PrintLast Go.Proofs.YtehfcafmdnfamaaW.PrintMore
attribute [local go_sem] max2_int min2_int max_two min_two max_three min_three max_four min_four
set_option linter.unusedVariables false
set_option linter.unusedSimpArgs false

/-! a skiplist in memory: lists made of puts -/
abbrev PutK := Kd.pair k37 (Kd.int .i64)
abbrev Put08 := S37 × Int
def ikOf (x : S37) : IK := (x.f0, x.f1, x.f2)
def putsOf (l : List Put08) : List (IK × Int) := l.map fun p => (ikOf p.1, p.2)
def zPut : Put08 := (z37, 0)
theorem put_open {w : World} {x : Put08} {cs : List Value} (h : PutK.K w x cs) : cs = [.string x.1.f0, .int .u64 x.1.f1, .int .i64 x.1.f2, .int .i64 x.2] := by
  obtain ⟨d1, d2, e2, h1, h2⟩ := h
  obtain rfl := k37_open h1
  have e5 : d2 = [.int .i64 x.2] := h2
  subst e5
  simpa using e2
theorem at_put {w : World} {A : Option Addr} {n : Nat} {xs : List Put08} (h : Kd.C PutK w A n xs) (i : Nat) (h1 : i < n) : ∃ ad x, A = some ad ∧ xs[i]? = some x ∧ w.cell? (ad.add (i * 4)) = some (.string x.1.f0) ∧ w.cell? ⟨(ad.add (i * 4)).block, (ad.add (i * 4)).off + 1, none⟩ = some (.int .u64 x.1.f1) ∧ w.cell? ⟨(ad.add (i * 4)).block, (ad.add (i * 4)).off + 2, none⟩ = some (.int .i64 x.1.f2) ∧ w.cell? ⟨(ad.add (i * 4)).block, (ad.add (i * 4)).off + 3, none⟩ = some (.int .i64 x.2) := by
  obtain ⟨ad, c, e, _, hK, hc0⟩ := Kd.C_get h zPut (i : Int) (by omega) (by omega)
  rw [Int.toNat_natCast] at hK hc0
  have hc : ∀ j u, c[j]? = some u → w.cell? (ad.add (i * 4 + j)) = some u := hc0
  obtain rfl := put_open hK
  have hl : i < xs.length := by have := h.1; omega
  refine ⟨ad, xs.getD i zPut, e, ?_, hc 0 _ rfl, by rw [← add_field _ _ 1 (by omega)]; exact hc 1 _ rfl, by rw [← add_field _ _ 2 (by omega)]; exact hc 2 _ rfl, by rw [← add_field _ _ 3 (by omega)]; exact hc 3 _ rfl⟩
  rw [List.getD_eq_getElem?_getD, List.getElem?_eq_getElem hl]; rfl
/-- a list stays where a row of numbers grows -/
theorem SkAt.own {w w' : World} {g base most b2 : Nat} {S : SL Int} {v : Value} {l : List Int} (h : SkAt w g base S most) (hr : Kd.R (Kd.int .i64) 3 w b2 (fun _ => True) v l) (hg : w.grownBy w' v.ownBlock) : SkAt w' g base S most := by
  obtain ⟨b, c, ns, h1, h2, h3⟩ := h
  have e1 := Kd.R_ne hr h1 (by decide)
  refine ⟨b, c, ns, (hg.block g (blk_lt h1) e1).trans h1, ndR_move h2 fun q hq => ?_, h3⟩
  have : b = q := by simpa [Value.ownBlock] using hq
  subst this
  obtain ⟨inner, hown⟩ := Kd.R_own h2
  obtain ⟨cs, hc⟩ := own_typed hown b rfl
  exact hg.block b (blk_lt hc) (Kd.R_ne hr hc (by decide))
/-- a number from 0 to 11 -/
def amg (a : Int) : Int := Int.tmod (wrap64 (Int.tmod a 12 + 12)) 12
theorem amg_eq (a : Int) : morainelaw08_among.f a 12 = some (amg a) := if_neg (by decide)
theorem amg_range (a : Int) : 0 ≤ amg a ∧ amg a ≤ 11 := by
  unfold amg
  have h1 : -12 < Int.tmod a 12 := Int.lt_tmod_of_pos a (by decide)
  have h2 : Int.tmod a 12 < 12 := Int.tmod_lt_of_pos a (by decide)
  generalize Int.tmod a 12 = x at h1 h2 ⊢
  have e : wrap64 (x + 12) = x + 12 := by unfold wrap64; omega
  rw [e]
  have h3 : 0 ≤ Int.tmod (x + 12) 12 := Int.tmod_nonneg _ (by omega)
  have h4 : Int.tmod (x + 12) 12 < 12 := Int.tmod_lt_of_pos _ (by decide)
  omega
def hgt (more x : Int) : Nat := (amg (wrap64 (x + more))).toNat + 1
theorem hgt_range (more x : Int) : 1 ≤ hgt more x ∧ hgt more x ≤ 12 := by
  have := amg_range (wrap64 (x + more))
  unfold hgt
  omega
theorem hgt_wrap (more x : Int) : wrap64 (1 + amg (wrap64 (x + more))) = (hgt more x : Int) := by
  have := amg_range (wrap64 (x + more))
  unfold hgt
  generalize amg (wrap64 (x + more)) = a at this ⊢
  unfold wrap64
  omega
def madeL (more : Int) (l : List Put08) : SL Int × List Int := madeS (hgt more) (putsOf l) 0 SL.nil []
theorem madeS_step (hf : Int → Nat) (l : List Put08) (i : Nat) (x : Put08) (hx : l[i]? = some x) (S : SL Int) (t : List Int) :
    madeS hf (putsOf (l.drop i)) i S t = if insC S 1048576 (ikOf x.1) (hf x.2 : Int) = 0 then madeS hf (putsOf (l.drop (i + 1))) (i + 1) (S.put (ikOf x.1) (i : Int) (hf x.2)) (t ++ [(i : Int)]) else madeS hf (putsOf (l.drop (i + 1))) (i + 1) S t := by
  obtain ⟨hl, rfl⟩ := List.getElem?_eq_some_iff.1 hx
  rw [List.drop_eq_getElem_cons hl]
  rfl
set_option maxHeartbeats 8000000 in
set_option maxRecDepth 100000 in
theorem made_calls (A : Option Addr) (c : Nat) (l : List Put08) (more : Int) (w : World) (hr : Kd.C PutK w A l.length l) (hc : l.length ≤ c) (hlen : l.length ≤ 1048576) :
    Calls Try.prog 17 #[.slice A l.length c, .int .i64 more] w fun e w' => ∃ g v, e = .returned (.tuple #[.pointer (some ⟨g, 0, none⟩), v]) ∧ SkAt w' g w.heap.size (madeL more l).1 1048576 ∧ Kd.R (Kd.int .i64) 3 w' w.heap.size (fun _ => True) v (madeL more l).2 ∧ Below w.heap.size w w' := by
  have HR0 := Aside0.mk hr
  have HC0 := Aside0.mk hc
  obtain ⟨m, hm⟩ : ∃ m, l.length = m := ⟨_, rfl⟩
  have HM := Aside0.mk hm
  rw [hm] at hlen
  rw [hm]
  clear hr hc hm
  go_enter Try.func17, Try.ntmps17
  have HNW := Aside0.mk (sk_new 1048576 w (by decide) (by decide))
  rw [show ((1048576 : Nat) : Int) = 1048576 from rfl] at HNW
  go_wp2_with fail
  (with_reducible refine HNW.out.mono ?_)
  rintro e w1 ⟨g, rfl, hsk, hb⟩
  have HSK := Aside0.mk hsk
  have HB := Aside0.mk hb
  clear hsk hb
  go_wp2_with fail
  go_loopg [8, 9] (1 + m) (fun kq v8 v9 wr => ∃ (i : Nat) (S : SL Int) (t : List Int), v9 = .int .i64 (i : Int) ∧ i ≤ m ∧ m - i < kq ∧ t.length ≤ i ∧ Aside0 (Made S t) ∧ Aside0 (madeS (hgt more) (putsOf (l.drop i)) i S t = madeL more l) ∧ Aside0 (SkAt wr g w.heap.size S 1048576) ∧ Aside0 (Kd.R (Kd.int .i64) 3 wr w.heap.size (fun _ => True) v8 t) ∧ Aside0 (Below w.heap.size w wr))
  case atStart => exact ⟨0, SL.nil, [], rfl, Nat.zero_le _, by omega, Nat.le_refl _, ⟨made_nil⟩, ⟨rfl⟩, HSK, ⟨Kd.R_nil _ _ _ _ _⟩, HB⟩
  case round =>
    clear HSK HB
    obtain ⟨i, S, t, rfl, him, hkq, htl, HMD, HMS, HSK, HR, HB⟩ := hrel
    cases gk with
    | zero => omega
    | succ gk1 =>
    by_cases hi : i < m
    · have b1 : decide ((i : Int) < (m : Int)) = true := decide_eq_true (by omega)
      have b1n : decide (i < m) = true := decide_eq_true hi
      obtain ⟨ad, x, hA, hx, c0, c1, c2, c3⟩ := at_put HR0.out i (by rw [HM.out]; exact hi)
      subst hA
      have hms := madeS_step (hgt more) l i x hx S t
      rw [HMS.out] at hms
      have HMS2 := Aside0.mk hms
      obtain ⟨⟨ks, kn, kd⟩, xh⟩ := x
      have HAM := Aside0.mk (amg_eq (wrap64 (xh + more)))
      have HIN := Aside0.mk (show ∀ W, SkAt W g w.heap.size S 1048576 → Calls Try.prog 13 #[.pointer (some ⟨g, 0, none⟩), .agg #[.string ks, .int .u64 kn, .int .i64 kd], .int .i64 (i : Int), .int .i64 (wrap64 (1 + amg (wrap64 (xh + more))))] W fun e w' => e = .returned (.int .i64 (insC S 1048576 (ks, kn, kd) (hgt more xh : Int))) ∧ SkAt w' g w.heap.size (insS S 1048576 (ks, kn, kd) (i : Int) (hgt more xh : Int)) 1048576 ∧ Below w.heap.size W w' ∧ Kept W w' (Turns W g w.heap.size) from fun W h => by
        rw [hgt_wrap]
        exact sk_insert g w.heap.size 1048576 S (ks, kn, kd) (i : Int) (hgt more xh : Int) W h)
      obtain ⟨am, ham⟩ : ∃ am, amg (wrap64 (xh + more)) = am := ⟨_, rfl⟩
      rw [ham] at HAM HIN
      obtain ⟨H, hH⟩ : ∃ H, hgt more xh = H := ⟨_, rfl⟩
      have hH' : hgt more (({ f0 := ks, f1 := kn, f2 := kd } : S37), xh).2 = H := hH
      rw [hH] at HIN
      rw [hH'] at HMS2
      have hms2 := HMS2.out
      rw [show ikOf (({ f0 := ks, f1 := kn, f2 := kd } : S37), xh).1 = (ks, kn, kd) from rfl] at hms2
      have HMS3 := Aside0.mk hms2
      clear HMS2
      obtain ⟨ic, hic⟩ : ∃ ic, insC S 1048576 (ks, kn, kd) (H : Int) = ic := ⟨_, rfl⟩
      obtain ⟨S2, hS2⟩ : ∃ S2, insS S 1048576 (ks, kn, kd) (i : Int) (H : Int) = S2 := ⟨_, rfl⟩
      rw [hic, hS2] at HIN
      have HIC := Aside0.mk hic
      have HS2 := Aside0.mk hS2
      have l0 := World.block_lt_of_cell? w _ c0
      have HQ := Aside0.mk (fun (W : World) (hb : Below w.heap.size w W) => (⟨(hb.cell l0).trans c0, (hb.cell (World.block_lt_of_cell? w _ c1)).trans c1, (hb.cell (World.block_lt_of_cell? w _ c2)).trans c2, (hb.cell (World.block_lt_of_cell? w _ c3)).trans c3⟩ : W.cell? (ad.add (i * 4)) = some (.string ks) ∧ W.cell? ⟨(ad.add (i * 4)).block, (ad.add (i * 4)).off + 1, none⟩ = some (.int .u64 kn) ∧ W.cell? ⟨(ad.add (i * 4)).block, (ad.add (i * 4)).off + 2, none⟩ = some (.int .i64 kd) ∧ W.cell? ⟨(ad.add (i * 4)).block, (ad.add (i * 4)).off + 3, none⟩ = some (.int .i64 xh)))
      obtain ⟨f0, f1, f2, f3⟩ := HQ.out wr HB.out
      have him2 : (i : Int) ≤ 1048576 := by omega
      clear c0 c1 c2 c3 hx hms hms2 ham hH hH' hic hS2 l0
      have HX := Aside0.mk HMS3.out
      go_wp2_with fail
      refine start_ (n := 22) (S := fun w' => w'.cell? (ad.add (i * 4)) = some (.string ks) ∧ w'.cell? ⟨(ad.add (i * 4)).block, (ad.add (i * 4)).off + 1, none⟩ = some (.int .u64 kn) ∧ w'.cell? ⟨(ad.add (i * 4)).block, (ad.add (i * 4)).off + 2, none⟩ = some (.int .i64 kd) ∧ w'.cell? ⟨(ad.add (i * 4)).block, (ad.add (i * 4)).off + 3, none⟩ = some (.int .i64 xh)) (ds := []) #[false, false, false, false, false, false, false, false, false, false, false, false, false, false, false, false, false, false, false, false, false, false] (by kernel_rfl) rfl rfl ⟨f0, f1, f2, f3⟩ (fun hHeld => ?_)
      refine pure_ (i := 0) (N := some 20) (v := ?_) (a' := ?_) #[true, false, false, false, false, false, false, false, false, false, false, false, false, false, false, false, false, false, false, false, false, false] rfl rfl (by kernel_rfl) (fun _ _ _ h => h) (Or.inl ⟨by rfl, ?_⟩) ?_ ?_
      rotate_left
      · intro w'
        go_simp
        with_reducible rfl
      rotate_left
      · simp only [Act.put, List.setIfInBounds_toArray, List.set_cons_zero, List.set_cons_succ, i64_w, i32_w]
        rfl
      refine pure_ (i := 1) (N := some 21) (v := ?_) (a' := ?_) #[true, true, false, false, false, false, false, false, false, false, false, false, false, false, false, false, false, false, false, false, false, false] rfl rfl (by kernel_rfl) (fun _ _ _ h => h) (Or.inl ⟨by rfl, ?_⟩) ?_ ?_
      rotate_left
      · intro w'
        go_simp
        with_reducible rfl
      rotate_left
      · simp only [Act.put, List.setIfInBounds_toArray, List.set_cons_zero, List.set_cons_succ, i64_w, i32_w]
        rfl
      refine pure_ (i := 2) (N := some 22) (v := ?_) (a' := ?_) #[true, true, true, false, false, false, false, false, false, false, false, false, false, false, false, false, false, false, false, false, false, false] rfl rfl (by kernel_rfl) (fun _ _ _ h => h) (Or.inl ⟨by rfl, ?_⟩) ?_ ?_
      rotate_left
      · intro w'
        go_simp
        with_reducible rfl
      rotate_left
      · simp only [Act.put, List.setIfInBounds_toArray, List.set_cons_zero, List.set_cons_succ, i64_w, i32_w]
        rfl
      refine pure_ (i := 3) (N := some 23) (v := ?_) (a' := ?_) #[true, true, true, true, false, false, false, false, false, false, false, false, false, false, false, false, false, false, false, false, false, false] rfl rfl (by kernel_rfl) (fun _ _ _ h => h) (Or.inl ⟨by rfl, ?_⟩) ?_ ?_
      rotate_left
      · intro w'
        go_simp
        with_reducible rfl
      rotate_left
      · simp only [Act.put, List.setIfInBounds_toArray, List.set_cons_zero, List.set_cons_succ, i64_w, i32_w]
        rfl
      refine pure_ (i := 4) (N := some 24) (v := ?_) (a' := ?_) #[true, true, true, true, true, false, false, false, false, false, false, false, false, false, false, false, false, false, false, false, false, false] rfl rfl (by kernel_rfl) (fun _ _ _ h => h) (Or.inl ⟨by rfl, ?_⟩) ?_ ?_
      rotate_left
      · intro w'
        go_simp
        with_reducible rfl
      rotate_left
      · simp only [Act.put, List.setIfInBounds_toArray, List.set_cons_zero, List.set_cons_succ, i64_w, i32_w]
        rfl
      refine pure_ (i := 5) (N := some 25) (v := ?_) (a' := ?_) #[true, true, true, true, true, true, false, false, false, false, false, false, false, false, false, false, false, false, false, false, false, false] rfl rfl (by kernel_rfl) (fun _ _ _ h => h) (Or.inl ⟨by rfl, ?_⟩) ?_ ?_
      rotate_left
      · intro w'
        go_simp
        with_reducible rfl
      rotate_left
      · simp only [Act.put, List.setIfInBounds_toArray, List.set_cons_zero, List.set_cons_succ, i64_w, i32_w]
        rfl
      refine pure_ (i := 6) (N := some 26) (v := ?_) (a' := ?_) #[true, true, true, true, true, true, true, false, false, false, false, false, false, false, false, false, false, false, false, false, false, false] rfl rfl (by kernel_rfl) (fun _ _ _ h => h) (Or.inl ⟨by rfl, ?_⟩) ?_ ?_
      rotate_left
      · intro w'
        go_simp
        with_reducible rfl
      rotate_left
      · simp only [Act.put, List.setIfInBounds_toArray, List.set_cons_zero, List.set_cons_succ, i64_w, i32_w]
        rfl
      refine pure_ (i := 7) (N := some 27) (v := ?_) (a' := ?_) #[true, true, true, true, true, true, true, true, false, false, false, false, false, false, false, false, false, false, false, false, false, false] rfl rfl (by kernel_rfl) (fun _ _ _ h => h) (Or.inl ⟨by rfl, ?_⟩) ?_ ?_
      rotate_left
      · intro w'
        go_simp
        with_reducible rfl
      rotate_left
      · simp only [Act.put, List.setIfInBounds_toArray, List.set_cons_zero, List.set_cons_succ, i64_w, i32_w]
        rfl
      refine pure_ (i := 9) (N := some 29) (v := ?_) (a' := ?_) #[true, true, true, true, true, true, true, true, false, true, false, false, false, false, false, false, false, false, false, false, false, false] rfl rfl (by kernel_rfl) (fun _ _ _ h => h) (Or.inl ⟨by rfl, ?_⟩) ?_ ?_
      rotate_left
      · intro w'
        go_simp
        with_reducible rfl
      rotate_left
      · simp only [Act.put, List.setIfInBounds_toArray, List.set_cons_zero, List.set_cons_succ, i64_w, i32_w]
        rfl
      refine pure_ (i := 10) (N := some 30) (v := ?_) (a' := ?_) #[true, true, true, true, true, true, true, true, false, true, true, false, false, false, false, false, false, false, false, false, false, false] rfl rfl (by kernel_rfl) (fun _ _ _ h => h) (Or.inl ⟨by rfl, ?_⟩) ?_ ?_
      rotate_left
      · intro w'
        go_simp
        with_reducible rfl
      rotate_left
      · simp only [Act.put, List.setIfInBounds_toArray, List.set_cons_zero, List.set_cons_succ, i64_w, i32_w]
        rfl
      refine pure_ (i := 11) (N := some 31) (v := ?_) (a' := ?_) #[true, true, true, true, true, true, true, true, false, true, true, true, false, false, false, false, false, false, false, false, false, false] rfl rfl (by kernel_rfl) (fun _ _ _ h => h) (Or.inl ⟨by rfl, ?_⟩) ?_ ?_
      rotate_left
      · intro w'
        go_simp
        with_reducible rfl
      rotate_left
      · simp only [Act.put, List.setIfInBounds_toArray, List.set_cons_zero, List.set_cons_succ, i64_w, i32_w]
        rfl
      refine pure_ (i := 12) (N := some 32) (v := ?_) (a' := ?_) #[true, true, true, true, true, true, true, true, false, true, true, true, true, false, false, false, false, false, false, false, false, false] rfl rfl (by kernel_rfl) (fun _ _ _ h => h) (Or.inl ⟨by rfl, ?_⟩) ?_ ?_
      rotate_left
      · intro w'
        go_simp
        with_reducible rfl
      rotate_left
      · simp only [Act.put, List.setIfInBounds_toArray, List.set_cons_zero, List.set_cons_succ, i64_w, i32_w]
        rfl
      refine pure_ (i := 13) (N := some 33) (v := ?_) (a' := ?_) #[true, true, true, true, true, true, true, true, false, true, true, true, true, true, false, false, false, false, false, false, false, false] rfl rfl (by kernel_rfl) (fun _ _ _ h => h) (Or.inl ⟨by rfl, ?_⟩) ?_ ?_
      rotate_left
      · intro w'
        go_simp
        with_reducible rfl
      rotate_left
      · simp only [Act.put, List.setIfInBounds_toArray, List.set_cons_zero, List.set_cons_succ, i64_w, i32_w]
        rfl
      refine pure_ (i := 15) (N := some 35) (v := ?_) (a' := ?_) #[true, true, true, true, true, true, true, true, false, true, true, true, true, true, false, true, false, false, false, false, false, false] rfl rfl (by kernel_rfl) (fun _ _ _ h => h) (Or.inl ⟨by rfl, ?_⟩) ?_ ?_
      rotate_left
      · intro w'
        go_simp
        with_reducible rfl
      rotate_left
      · simp only [Act.put, List.setIfInBounds_toArray, List.set_cons_zero, List.set_cons_succ, i64_w, i32_w]
        rfl
      refine take_ (i := 8) (N := some 28) (v := ?_) (a' := ?_) #[true, true, true, true, true, true, true, true, true, true, true, true, true, true, false, true, false, false, false, false, false, false] rfl rfl (by kernel_rfl) (fun _ _ _ h => h) (Or.inl ⟨by rfl, ?_⟩) hHeld ?_ ?_
      rotate_left
      · rintro w' ⟨s0, s1, s2, s3⟩
        go_simp
        with_reducible rfl
      rotate_left
      · simp only [Act.put, List.setIfInBounds_toArray, List.set_cons_zero, List.set_cons_succ, i64_w, i32_w]
        rfl
      refine take_ (i := 14) (N := some 34) (v := ?_) (a' := ?_) #[true, true, true, true, true, true, true, true, true, true, true, true, true, true, true, true, false, false, false, false, false, false] rfl rfl (by kernel_rfl) (fun _ _ _ h => h) (Or.inl ⟨by rfl, ?_⟩) hHeld ?_ ?_
      rotate_left
      · rintro w' ⟨s0, s1, s2, s3⟩
        go_simp
        with_reducible rfl
      rotate_left
      · simp only [Act.put, List.setIfInBounds_toArray, List.set_cons_zero, List.set_cons_succ, i64_w, i32_w]
        rfl
      refine pure_ (i := 16) (N := some 36) (v := ?_) (a' := ?_) #[true, true, true, true, true, true, true, true, true, true, true, true, true, true, true, true, true, false, false, false, false, false] rfl rfl (by kernel_rfl) (fun _ _ _ h => h) (Or.inl ⟨by rfl, ?_⟩) ?_ ?_
      rotate_left
      · intro w'
        go_simp
        with_reducible rfl
      rotate_left
      · simp only [Act.put, List.setIfInBounds_toArray, List.set_cons_zero, List.set_cons_succ, i64_w, i32_w]
        rfl
      refine one_ (i := 17) (N := some 37) #[true, true, true, true, true, true, true, true, true, true, true, true, true, true, true, true, true, true, false, false, false, false] rfl rfl (by kernel_rfl) (by decide) (fun K hK => ?_)
      refine goes_ Try.func30 (by kernel_rfl) rfl #[.int .i64 (wrap64 (xh + more)), .int .i64 12] (by rfl) rfl rfl (by simp only [List.map_toArray, List.map_cons, List.map_nil]; rfl) ?_
      with_reducible refine (morainelaw08_among.calls _ 12 _ _ HAM.out).mono ?_
      rintro e w3 ⟨rfl, hd⟩
      refine ⟨_, rfl, ?_⟩
      have HD3 := Aside0.mk (show Below w.heap.size w w3 from below_step (pw_below_drewN HB.out 1) hd.below)
      have HS3 := Aside0.mk (show SkAt w3 g w.heap.size S 1048576 from (HSK.out.below (pw_below_drewN (Below.refl _ _) 1)).below hd.below)
      have HR3 := Aside0.mk (show Kd.R (Kd.int .i64) 3 w3 w.heap.size (fun _ => True) u8 t from Kd.R_below (Kd.R_below HR.out (pw_below_drewN (Below.refl _ _) 1)) hd.below)
      clear hd
      refine hK.out _ _ ⟨(HQ.out _ HD3.out).1, (HQ.out _ HD3.out).2.1, (HQ.out _ HD3.out).2.2.1, (HQ.out _ HD3.out).2.2.2⟩ (fun hHeld => ?_)
      clear hK K
      refine norm_ (a' := ?_) ?_ ?_
      rotate_left
      · show Act.put _ (some 37) _ = _
        simp only [Act.put, List.setIfInBounds_toArray, List.set_cons_zero, List.set_cons_succ, i64_w, i32_w]
        rfl
      refine pure_ (i := 18) (N := some 38) (v := ?_) (a' := ?_) #[true, true, true, true, true, true, true, true, true, true, true, true, true, true, true, true, true, true, true, false, false, false] rfl rfl (by kernel_rfl) (fun _ _ _ h => h) (Or.inl ⟨by rfl, ?_⟩) ?_ ?_
      rotate_left
      · intro w'
        go_simp
        with_reducible rfl
      rotate_left
      · simp only [Act.put, List.setIfInBounds_toArray, List.set_cons_zero, List.set_cons_succ, i64_w, i32_w]
        rfl
      refine one_ (i := 19) (N := some 39) #[true, true, true, true, true, true, true, true, true, true, true, true, true, true, true, true, true, true, true, true, false, false] rfl rfl (by kernel_rfl) (by decide) (fun K hK => ?_)
      refine goes_ Try.func13 (by kernel_rfl) rfl #[.pointer (some ⟨g, 0, none⟩), .agg #[.string ks, .int .u64 kn, .int .i64 kd], .int .i64 (i : Int), .int .i64 (wrap64 (1 + am))] (by rfl) rfl rfl (by simp only [List.map_toArray, List.map_cons, List.map_nil]; rfl) ?_
      with_reducible refine (HIN.out _ HS3.out).mono ?_
      rintro e w4 ⟨rfl, hsk, hb, hk⟩
      refine ⟨_, rfl, ?_⟩
      have HS4 := Aside0.mk hsk
      have HB4 := Aside0.mk (show Below w.heap.size w w4 from HD3.out.trans hb)
      have HR4 := Aside0.mk (turns_ints hk HS3.out HR3.out)
      clear hsk hb hk
      refine hK.out _ _ ⟨(HQ.out _ HB4.out).1, (HQ.out _ HB4.out).2.1, (HQ.out _ HB4.out).2.2.1, (HQ.out _ HB4.out).2.2.2⟩ (fun hHeld => ?_)
      clear hK K
      refine norm_ (a' := ?_) ?_ ?_
      rotate_left
      · show Act.put _ (some 39) _ = _
        simp only [Act.put, List.setIfInBounds_toArray, List.set_cons_zero, List.set_cons_succ, i64_w, i32_w]
        rfl
      refine pure_ (i := 20) (N := some 40) (v := ?_) (a' := ?_) #[true, true, true, true, true, true, true, true, true, true, true, true, true, true, true, true, true, true, true, true, true, false] rfl rfl (by kernel_rfl) (fun _ _ _ h => h) (Or.inl ⟨by rfl, ?_⟩) ?_ ?_
      rotate_left
      · intro w'
        go_simp
        with_reducible rfl
      rotate_left
      · simp only [Act.put, List.setIfInBounds_toArray, List.set_cons_zero, List.set_cons_succ, i64_w, i32_w]
        rfl
      refine pure_ (i := 21) (N := some 41) (v := ?_) (a' := ?_) #[true, true, true, true, true, true, true, true, true, true, true, true, true, true, true, true, true, true, true, true, true, true] rfl rfl (by kernel_rfl) (fun _ _ _ h => h) (Or.inl ⟨by rfl, ?_⟩) ?_ ?_
      rotate_left
      · intro w'
        go_simp
        with_reducible rfl
      rotate_left
      · simp only [Act.put, List.setIfInBounds_toArray, List.set_cons_zero, List.set_cons_succ, i64_w, i32_w]
        rfl
      refine done_ (by kernel_rfl) ?_
      have hhh := hHeld
      clear f0 f1 f2 f3 HSK HR HB HD3 HS3 HR3
      clear hhh
      by_cases h0 : ic = 0
      · have b2 : (ic == 0) = true := by simp [h0]
        have HNX := Aside0.mk (show madeL more l = madeS (hgt more) (putsOf (l.drop (i + 1))) (i + 1) (S.put (ks, kn, kd) (i : Int) H) (t ++ [(i : Int)]) by rw [HX.out, if_pos (HIC.out.trans h0)])
        have HSE := Aside0.mk (show S2 = S.put (ks, kn, kd) (i : Int) H by rw [← HS2.out]; unfold insS; rw [if_pos (HIC.out.trans h0), Int.toNat_natCast])
        have HM2 := Aside0.mk (HMD.out.put (HIC.out.trans h0) (i : Int))
        have HLN := Aside0.mk (show t.length ≤ 1048576 by omega)
        clear h0
        go_wp2_with (first | ((with_reducible refine gate_builtin (b := .append) (xs := #[.tmp 42, .tmp 44]) rfl ?_); at_builtin; refine Kd.R_append (Kd.int .i64) (w0 := w) w.heap.size rfl (.tmp 42) (.tmp 44) 28 3 (.int .i64 0) 8 rfl Try.underlying28 info3 rfl (by decide) (by omega) u8 (t) ((i : Int)) [.int .i64 ((i : Int))] (fun _ => True) (fun _ => False) rfl rfl ?aP (fun _ hk => hk.elim) ?aF ?aO ?aB ?aS ?aL ?_; (case aP => exact rfl); (case aB => exact (by repeat (first | (with_reducible first | exact HB4.out | apply below_alloc | apply pw_below_drewN | apply below_drew1) | exact HB4.out))); (case aF => exact (fun _ _ => trivial)); (case aO => exact (by (with_reducible repeat (first | apply Kd.R_alloc | apply Kd.R_drewN | apply Kd.R_drew)); exact HR4.out)); (case aS => exact (below_size (by repeat (first | (with_reducible first | exact HB4.out | apply below_alloc | apply pw_below_drewN | apply below_drew1) | exact HB4.out)))); (case aL => have := HLN.out; omega); intro vN wN ho hb hg hat; have HRN := Aside0.mk ho; have HBN := Aside0.mk hb; have HSN := Aside0.mk (HS4.out.own HR4.out hg); clear HR4 HB4 ho hb hg hat))
        go_roundg gk1
        case measure => omega
        case rel => exact ⟨i + 1, S2, t ++ [(i : Int)], by go_num, by omega, by omega, by rw [List.length_append, List.length_singleton]; omega, by rw [HSE.out]; exact HM2, ⟨by rw [HSE.out]; exact HNX.out.symm⟩, HSN, HRN, HBN⟩
      · have b2 : (ic == 0) = false := by simp [h0]
        have HNX := Aside0.mk (show madeL more l = madeS (hgt more) (putsOf (l.drop (i + 1))) (i + 1) S t by rw [HX.out, if_neg (fun e => h0 (HIC.out.symm.trans e))])
        have HSE := Aside0.mk (show S2 = S by rw [← HS2.out]; unfold insS; rw [if_neg (fun e => h0 (HIC.out.symm.trans e))])
        clear h0
        go_wp2
        go_roundg gk1
        case measure => omega
        case rel => exact ⟨i + 1, S2, t, by go_num, by omega, by omega, by omega, by rw [HSE.out]; exact HMD, ⟨by rw [HSE.out]; exact HNX.out.symm⟩, HS4, HR4, HB4⟩
    · obtain rfl : i = m := by omega
      have b1 : decide ((i : Int) < (i : Int)) = false := decide_eq_false (by omega)
      have HEND := Aside0.mk (show (S, t) = madeL more l by have h := HMS.out; rw [List.drop_of_length_le (by rw [HM.out]; exact Nat.le_refl _)] at h; exact h)
      go_wp2
      refine bodyPost_ret (by simp [results, Try.results17, go_sem]; rfl) rfl ?_
      refine ⟨g, _, rfl, ?_⟩
      rw [← HEND.out]
      exact ⟨HSK.out, HR.out, HB.out⟩

end Go.Proofs.Ytehfcafmdnfamaa.G

/- Contracts typed by hand: the chapter's first example, plain -/
namespace Go.Proofs.Ytehfcafmdnfamaa.G
open Go.RowKit Go.Proofs.YtehfcafmdnfamaaW.PrintWords Go.Proofs.YtehfcafmdnfamaaW.PrintLast Go.Proofs.YtehfcafmdnfamaaW.PrintMore
attribute [local go_sem] max2_int min2_int max_two min_two max_three min_three max_four min_four
set_option linter.unusedVariables false
set_option linter.unusedSimpArgs false

/-! the chapter's first example, plain -/
def kS (b : UInt8) (n : Int) : IK := (⟨#[b]⟩, n, 1)
theorem toL (b : UInt8) : (⟨#[b]⟩ : ByteArray).toList = [b] := by rw [Lib.toList_data]
theorem vkS (b : UInt8) (n : Int) (h : n = 1 ∨ n = 2) : vk (kS b n) = true := by
  unfold vk kS
  rw [valid_eq]
  unfold moraineref03_Valid.f moraineref03_kind.f
  rcases h with rfl | rfl <;> rfl
theorem klS (a b : UInt8) (m n : Int) : kl (kS a m) (kS b n) = decide (kc [a] m 1 [b] n 1 < 0) := by
  unfold kl kS
  rw [toL, toL]
def W1 : SL Int := ⟨[(kS 98 1, 0, 2)], [1]⟩
def W2 : SL Int := ⟨[(kS 98 1, 0, 2), (kS 97 1, 0, 1)], [2, 1]⟩
def W3 : SL Int := ⟨[(kS 98 1, 0, 2), (kS 97 1, 0, 1), (kS 99 1, 0, 3)], [2, 1, 3]⟩
theorem w2_below : W1.below (kS 97 1) = [] ∧ W1.rest (kS 97 1) = [1] := by
  have h : kl (kS 98 1) (kS 97 1) = false := by rw [klS]; decide
  have e : W1.key 1 = kS 98 1 := rfl
  constructor
  · show List.filter _ [1] = []
    simp [e, h]
  · show List.filter _ [1] = [1]
    simp [e, h]
theorem w3_below : W2.below (kS 99 1) = [2, 1] ∧ W2.rest (kS 99 1) = [] := by
  have h : kl (kS 98 1) (kS 99 1) = true := by rw [klS]; decide
  have h2 : kl (kS 97 1) (kS 99 1) = true := by rw [klS]; decide
  have e : W2.key 1 = kS 98 1 := rfl
  have e2 : W2.key 2 = kS 97 1 := rfl
  constructor
  · show List.filter _ [2, 1] = [2, 1]
    simp [e, e2, h, h2]
  · show List.filter _ [2, 1] = []
    simp [e, e2, h, h2]
theorem kS_ne : kS 98 1 ≠ kS 97 1 := by
  intro h
  have := congrArg (fun k : IK => k.1) h
  simp [kS] at this
theorem ins1 : insC (SL.nil : SL Int) 3 (kS 98 1) 2 = 0 ∧ insS (SL.nil : SL Int) 3 (kS 98 1) 0 2 = W1 := by
  have h : insC (SL.nil : SL Int) 3 (kS 98 1) 2 = 0 := by
    unfold insC
    rw [vkS 98 1 (Or.inl rfl)]
    rfl
  exact ⟨h, by unfold insS; rw [if_pos h]; rfl⟩
theorem ins2 : insC W1 3 (kS 97 1) 1 = 0 ∧ insS W1 3 (kS 97 1) 0 1 = W2 := by
  have hf : W1.find (kS 97 1) = 0 := by
    unfold SL.find SL.seek
    rw [w2_below.2]
    rw [if_neg]
    rintro ⟨_, h⟩
    exact kS_ne h
  have h : insC W1 3 (kS 97 1) 1 = 0 := by
    unfold insC
    rw [vkS 97 1 (Or.inl rfl), hf]
    rfl
  refine ⟨h, ?_⟩
  unfold insS
  rw [if_pos h]
  unfold SL.put
  rw [w2_below.1, w2_below.2]; rfl
theorem ins3 : insC W2 3 (kS 99 1) 3 = 0 ∧ insS W2 3 (kS 99 1) 0 3 = W3 := by
  have hf : W2.find (kS 99 1) = 0 := by
    unfold SL.find SL.seek
    rw [w3_below.2]
    rfl
  have h : insC W2 3 (kS 99 1) 3 = 0 := by
    unfold insC
    rw [vkS 99 1 (Or.inl rfl), hf]
    rfl
  refine ⟨h, ?_⟩
  unfold insS
  rw [if_pos h]
  unfold SL.put
  rw [w3_below.1, w3_below.2]; rfl
theorem w3_lvl : lvl W3 0 = [2, 1, 3] ∧ lvl W3 1 = [1, 3] := ⟨rfl, rfl⟩
theorem w3_height : W3.height = 3 := rfl
theorem w3_seek : W3.seek (kS 98 2) = 1 := by
  have h : kl (kS 98 1) (kS 98 2) = false := by rw [klS]; decide
  have h2 : kl (kS 97 1) (kS 98 2) = true := by rw [klS]; decide
  have h3 : kl (kS 99 1) (kS 98 2) = false := by rw [klS]; decide
  have e : W3.key 1 = kS 98 1 := rfl
  have e2 : W3.key 2 = kS 97 1 := rfl
  have e3 : W3.key 3 = kS 99 1 := rfl
  unfold SL.seek SL.rest
  show (List.filter _ [2, 1, 3]).headD 0 = 1
  simp [e, e2, e3, h, h2, h3]
theorem w3_trt : trt W3 (kS 99 1) 0 3 = [0, 1, 1] := by
  have h : kl (kS 98 1) (kS 99 1) = true := by rw [klS]; decide
  have h2 : kl (kS 97 1) (kS 99 1) = true := by rw [klS]; decide
  have h3 : kl (kS 99 1) (kS 99 1) = false := by rw [klS]; decide
  have e : W3.key 1 = kS 98 1 := rfl
  have e2 : W3.key 2 = kS 97 1 := rfl
  have e3 : W3.key 3 = kS 99 1 := rfl
  have hb : W3.below (kS 99 1) = [2, 1] := by
    show List.filter _ [2, 1, 3] = [2, 1]
    simp [e, e2, e3, h, h2, h3]
  unfold trt
  rw [hb]; rfl

end Go.Proofs.Ytehfcafmdnfamaa.G

/- Contracts typed by hand: a skiplist in memory: Links, Trail (values: whole numbers) -/
namespace Go.Proofs.Ytehfcafmdnfamaa.G
open Go.RowKit Go.Proofs.YtehfcafmdnfamaaW.PrintWords Go.Proofs.YtehfcafmdnfamaaW.PrintLast Go.Proofs.YtehfcafmdnfamaaW.PrintMore
attribute [local go_sem] max2_int min2_int max_two min_two max_three min_three max_four min_four
set_option linter.unusedVariables false
set_option linter.unusedSimpArgs false

/-! a skiplist in memory: Links, Trail (values: whole numbers) -/
set_option maxHeartbeats 8000000 in
set_option maxRecDepth 100000 in
theorem sk_links (g base most : Nat) (S : SL Int) (lv : Int) (w : World) (h : SkAt w g base S most) :
    Calls Try.prog 18 #[.pointer (some ⟨g, 0, none⟩), .int .i64 lv] w fun e w' => ∃ v, e = .returned v ∧ Kd.R (Kd.int .i64) 3 w' w.heap.size (fun _ => True) v (lvl S lv) ∧ Below w.heap.size w w' := by
  have H := Aside0.mk h
  have HS := Aside0.mk h.fine
  obtain ⟨b, c, ns, h1, h2, _, _, hM⟩ := h.reads
  by_cases c0 : lv < 0
  · have b0 : decide (lv < 0) = true := decide_eq_true c0
    rw [lvl_neg S c0]
    clear h h1 h2 hM c0
    go_enter Try.func18, Try.ntmps18
    go_wp2_with fail
    (with_reducible refine (sk_none g base most S _ H.out).mono ?_)
    rintro e w1 ⟨rfl, rfl⟩
    go_wp2
    go_ret
    exact ⟨_, rfl, Kd.R_nil _ _ _ _ _, Below.refl _ _⟩
  obtain ⟨j, rfl⟩ : ∃ j : Nat, lv = (j : Int) := ⟨lv.toNat, by omega⟩
  rw [lvl_nat S j]
  have b0 : decide ((j : Int) < 0) = false := decide_eq_false c0
  have hp0 : 0 ≤ (j : Int) := by omega
  have q2 : w.cell? ⟨g, 2, none⟩ = some (.int .i64 (S.height : Int)) := (blk_cell h1 2).trans rfl
  by_cases c1 : S.height ≤ j
  · rw [lvls_high h.fine.1 c1]
    obtain ⟨m, hm⟩ : ∃ m, S.height = m := ⟨_, rfl⟩
    rw [hm] at q2 c1
    have b1 : decide ((j : Int) ≥ (m : Int)) = true := decide_eq_true (by omega)
    have c1' : (m : Int) ≤ (j : Int) := by omega
    clear h h1 h2 hM c0 c1 hm
    go_enter Try.func18, Try.ntmps18
    go_wp2_with fail
    (with_reducible refine (sk_none g base most S _ H.out).mono ?_)
    rintro e w1 ⟨rfl, rfl⟩
    go_wp2
    go_ret
    exact ⟨_, rfl, Kd.R_nil _ _ _ _ _, Below.refl _ _⟩
  have hj12 : j < 12 := by have := S.height_le h.fine.1; omega
  have q0 : w.cell? ⟨g, 0, none⟩ = some (.slice (some ⟨b, 0, none⟩) (S.nodes.length + 1) c) := (blk_cell h1 0).trans rfl
  have q1 := h2 0 j (by omega) hj12
  have e1 := hM.links.next j [] S.order hj12 rfl (Or.inl rfl)
  rw [show lastOf [] = 0 from rfl] at e1
  rw [e1, show 0 * 18 + (5 + j) = 5 + j by omega] at q1
  have HLO := Aside0.mk (show S.order.length ≤ 1048576 by rw [h.fine.1.len]; exact h.fine.2.1)
  have HSK := Aside0.mk (fun W (hb : Below w.heap.size w W) => h.below hb)
  have HB := Aside0.mk (Below.refl w.heap.size w)
  obtain ⟨m, hm⟩ : ∃ m, S.height = m := ⟨_, rfl⟩
  obtain ⟨n, hn⟩ : ∃ n, S.nodes.length + 1 = n := ⟨_, rfl⟩
  rw [hm] at q2 c1
  rw [hn] at q0
  have b1 : decide ((j : Int) ≥ (m : Int)) = false := decide_eq_false (by omega)
  have b1n : decide (m ≤ j) = false := decide_eq_false (by omega)
  have c1' : (j : Int) < (m : Int) := by omega
  have hn0 : 0 < n := by omega
  have HNN := Aside0.mk hn
  obtain ⟨z0, hz0⟩ : ∃ z0, nx S.ht j S.order = z0 := ⟨_, rfl⟩
  rw [hz0] at q1
  have HZ0 := Aside0.mk hz0
  clear h h1 h2 hM c0 c1 hm e1 hn hz0
  go_enter Try.func18, Try.ntmps18
  go_wp2_with fail
  (with_reducible refine (sk_none g base most S _ H.out).mono ?_)
  rintro e w1 ⟨rfl, rfl⟩
  go_wp2
  clear q0 q1 q2 b0 b1 b1n c1' hn0
  go_loopg [5, 6] (1 + S.order.length) (fun kq v5 v6 wr => ∃ (a d : List Nat) (z : Nat), v6 = .int .i32 (z : Int) ∧ d.length < kq ∧ Aside0 (nx S.ht j d = z) ∧ Aside0 (S.order = a ++ d) ∧ Aside0 (Kd.R (Kd.int .i64) 3 wr w.heap.size (fun _ => True) v5 (lvls S j a)) ∧ Aside0 (Below w.heap.size w wr))
  case atStart => exact ⟨[], S.order, z0, rfl, by omega, HZ0, ⟨rfl⟩, ⟨Kd.R_nil _ _ _ _ _⟩, HB⟩
  case round =>
    clear HB
    obtain ⟨a, d, z, rfl, hkq, HZ, HO, HR, HB⟩ := hrel
    cases gk with
    | zero => omega
    | succ gk1 =>
    by_cases hz0 : z = 0
    · subst hz0
      have hend : lvls S j S.order = lvls S j a := by
        rw [HO.out]
        refine lvls_none a ?_
        rcases nx_part S.ht j d with h | ⟨l1, y, l2, e, _, _, h⟩
        · exact h
        · have h0 := h []
          rw [List.append_nil, HZ.out] at h0
          have := HS.out.1.mem y (by rw [HO.out, e]; simp)
          omega
      have HEND := Aside0.mk hend
      clear hend
      go_wp2
      go_ret
      exact ⟨_, rfl, by rw [HEND.out]; exact HR.out, HB.out⟩
    · have hpart : ∃ c1 c2, d = c1 ++ z :: c2 ∧ (∀ u ∈ c1, ¬ j < S.ht u) ∧ j < S.ht z := by
        rcases nx_part S.ht j d with h | ⟨l1, y, l2, e, h1, h2, h⟩
        · exact absurd (HZ.out ▸ nx_none h) hz0
        · have h0 := h []
          rw [List.append_nil, HZ.out] at h0
          subst h0
          exact ⟨l1, l2, e, h1, h2⟩
      obtain ⟨c1, c2, hd, hc1, hjz⟩ := hpart
      have HD := Aside0.mk hd
      have HC1 := Aside0.mk hc1
      have HJZ := Aside0.mk hjz
      have hord : S.order = (a ++ c1 ++ [z]) ++ c2 := by rw [HO.out, hd]; simp
      have HORD := Aside0.mk hord
      have hzm := HS.out.1.mem z (by rw [hord]; simp)
      have hdl : d.length = c1.length + (c2.length + 1) := by rw [hd]; simp
      have hc2 : c2.length < gk1 := by omega
      have HLN := Aside0.mk (show (lvls S j a).length ≤ 1048576 by
        have h3 := lvls_len S j a
        have h4 := HLO.out
        rw [HO.out, List.length_append] at h4
        omega)
      have hzn : z < n := by have := HNN.out; omega
      have hzb : z ≤ 1048576 := by have := HS.out.2.1; omega
      have hn1 : n ≤ 1048577 := by have := HS.out.2.1; have := HNN.out; omega
      have b3 : ((z : Int) == 0) = false := by simp; omega
      have b4 : ((z : Int) != 0) = true := by simp; omega
      obtain ⟨z1, hz1⟩ : ∃ z1, nx S.ht j c2 = z1 := ⟨_, rfl⟩
      have HRD := Aside0.mk (show ∀ W, Below w.heap.size w W → ∃ b c, W.cell? ⟨g, 0, none⟩ = some (.slice (some ⟨b, 0, none⟩) n c) ∧ W.cell? ⟨b, z * 18 + 5 + j, none⟩ = some (.int .i32 (z1 : Int)) by
        intro W hb
        obtain ⟨b, c, ns, h1, h2, _, _, hM⟩ := (HSK.out W hb).reads
        have q0 : W.cell? ⟨g, 0, none⟩ = some (.slice (some ⟨b, 0, none⟩) (S.nodes.length + 1) c) := (blk_cell h1 0).trans rfl
        have q1 := h2 z j (by rw [HNN.out]; exact hzn) hj12
        have e1 := hM.links.next j (a ++ c1 ++ [z]) c2 hj12 HORD.out (Or.inr (by rw [lastOf_snoc]; exact HJZ.out))
        rw [lastOf_snoc] at e1
        rw [e1, ← Nat.add_assoc, hz1] at q1
        rw [HNN.out] at q0
        exact ⟨b, c, q0, q1⟩)
      have HZ1 := Aside0.mk hz1
      clear hord hzm hd hc1 hjz hdl hkq hz0 hz1
      go_wp2_with (((with_reducible refine gate_builtin (b := .append) (xs := #[.tmp 42, .tmp 45]) rfl ?_); at_builtin; refine Kd.R_append (Kd.int .i64) (w0 := w) w.heap.size rfl (.tmp 42) (.tmp 45) 28 3 (.int .i64 0) 8 rfl Try.underlying28 info3 rfl (by decide) (by omega) u5 (lvls S j a) ((z : Int)) [.int .i64 ((z : Int))] (fun _ => True) (fun _ => False) rfl rfl ?aP (fun _ hk => hk.elim) ?aF ?aO ?aB ?aS ?aL ?_; (case aP => exact rfl); (case aB => exact (by repeat (first | (with_reducible first | exact HB.out | apply below_alloc | apply pw_below_drewN | apply below_drew1) | exact HB.out))); (case aF => exact (fun _ _ => trivial)); (case aO => exact (by (with_reducible repeat (first | apply Kd.R_alloc | apply Kd.R_drewN | apply Kd.R_drew)); exact HR.out)); (case aS => exact (below_size (by repeat (first | (with_reducible first | exact HB.out | apply below_alloc | apply pw_below_drewN | apply below_drew1) | exact HB.out)))); (case aL => have := HLN.out; omega); intro vN wN ho hb hg hat; have HRN := Aside0.mk ho; have HBN := Aside0.mk hb; obtain ⟨b, c, q0, q1⟩ := HRD.out _ hb; clear HR HB ho hb hg hat))
      clear HLN
      go_roundg gk1
      case measure => omega
      case rel => exact ⟨a ++ c1 ++ [z], c2, z1, by rfl, hc2, HZ1, HORD, ⟨by have := HRN.out; rw [lvls_step a HC1.out HJZ.out]; exact this⟩, HBN⟩
set_option maxHeartbeats 8000000 in
set_option maxRecDepth 100000 in
theorem sk_trailL (g base most : Nat) (S : SL Int) (k : IK) (w : World) (h : SkAt w g base S most) :
    Calls Try.prog 19 #[.pointer (some ⟨g, 0, none⟩), .agg #[.string k.1, .int .u64 k.2.1, .int .i64 k.2.2]] w fun e w' => ∃ v, e = .returned v ∧ Kd.R (Kd.int .i64) 3 w' w.heap.size (fun _ => True) v (trt S k 0 S.height) ∧ Below w.heap.size w w' := by
  obtain ⟨W1, hW1⟩ : ∃ W1, w.alloc (.cells #[.string k.1, .int .u64 k.2.1, .int .i64 k.2.2] 37) = W1 := ⟨_, rfl⟩
  have HB1 := Aside0.mk (show Below w.heap.size w W1 by rw [← hW1]; exact below_alloc (Below.refl _ _) _)
  have HX1 := Aside0.mk (show W1.heap[w.heap.size]? = some (.cells #[.string k.1, .int .u64 k.2.1, .int .i64 k.2.2] 37 (0, 0)) by rw [← hW1]; exact blk_new w _)
  have H1 := Aside0.mk (h.below HB1.out)
  have HE1 := Aside0.mk hW1
  have HF := Aside0.mk h.fine
  clear hW1
  have hh12 := S.height_le h.fine.1
  have HSK := Aside0.mk (fun W (hb : Below w.heap.size w W) => h.below hb)
  clear h
  go_enter Try.func19, Try.ntmps19
  go_wp2_with fail
  rw [HE1.out]
  (with_reducible refine (sk_none g base most S _ H1.out).mono ?_)
  rintro e w1 ⟨rfl, rfl⟩
  have x0 := blk_cell HX1.out 0
  have x1 := blk_cell HX1.out 1
  have x2 := blk_cell HX1.out 2
  go_wp2_with fail
  (with_reducible refine (sk_trail g base most S k _ H1.out).mono ?_)
  rintro e w2 ⟨rfl, hb⟩
  have HA := Aside0.mk (show ArrAt (w2.alloc (.cells #[.int .i64 0, .int .i64 0, .int .i64 0, .int .i64 0, .int .i64 0, .int .i64 0, .int .i64 0, .int .i64 0, .int .i64 0, .int .i64 0, .int .i64 0, .int .i64 0] 85)) w2.heap.size 85 (List.replicate 12 0) from ArrAt.fresh w2 85 (List.replicate 12 0))
  have HB2 := Aside0.mk (below_step HB1.out hb)
  have HB3 := Aside0.mk (below_alloc HB2.out (.cells #[.int .i64 0, .int .i64 0, .int .i64 0, .int .i64 0, .int .i64 0, .int .i64 0, .int .i64 0, .int .i64 0, .int .i64 0, .int .i64 0, .int .i64 0, .int .i64 0] 85))
  have hlen := trL_len S k
  have hlen0 : (List.replicate 12 0).length = 12 := rfl
  clear hb x0 x1 x2
  obtain ⟨m, hm⟩ : ∃ m, S.height = m := ⟨_, rfl⟩
  have HQ2 := Aside0.mk (fun W (hb : Below w.heap.size w W) => by
    obtain ⟨b, c, ns, h1, _⟩ := (HSK.out W hb).reads
    exact ((blk_cell h1 2).trans rfl : W.cell? ⟨g, 2, none⟩ = some (.int .i64 (S.height : Int))))
  rw [hm] at HQ2 hh12
  have HM := Aside0.mk hm
  clear hm
  go_wp2_with (first | ((with_reducible refine gate_ (.store 85 (.tmp 5) (.tmp 12)) rfl ?_); refine wpList_store_arr rfl rfl _ _ _ rfl _ rfl HA.out _ rfl hi12 hlen hlen0 ?_; generalize hW4 : World.setCells _ _ _ _ = W4; (have HA4 := Aside0.mk (HA.out.setc _ (hlen.trans hlen0.symm))); (have HB4 := Aside0.mk (belowSetCells w2.heap.size (below_size HB2.out) ((trL S k).map ei) 0 _ HB3.out)); rw [hW4] at HA4 HB4; (have HT := Aside0.mk (blk_lt HA4.out.heap)); (have q2 := HQ2.out W4 HB4.out); clear HA HB2 HB3 hW4))
  clear q2
  have HB := HB4
  clear HB4
  go_loopg [6, 7] (1 + m) (fun kq v6 v7 wr => ∃ lv : Nat, v7 = .int .i64 ((lv : Int) - 1) ∧ lv < kq ∧ lv ≤ m ∧ Aside0 (Kd.R (Kd.int .i64) 3 wr w.heap.size (fun _ => True) v6 (trt S k lv (m - lv))) ∧ Aside0 (Below w.heap.size w wr) ∧ Aside0 (ArrAt wr w2.heap.size 85 (trL S k)))
  case atStart => exact ⟨m, rfl, by omega, Nat.le_refl _, ⟨by rw [Nat.sub_self]; exact Kd.R_nil _ _ _ _ _⟩, HB, HA4⟩
  case round =>
    clear HB HA4
    obtain ⟨lv, rfl, hkq, hlm, HR, HB, HA⟩ := hrel
    cases gk with
    | zero => omega
    | succ gk1 =>
    cases lv with
    | zero =>
      go_wp2
      go_ret
      exact ⟨_, rfl, by rw [HM.out]; exact HR.out, HB.out⟩
    | succ j =>
      have e1 : ((j + 1 : Nat) : Int) - 1 = (j : Int) := by omega
      rw [e1]
      have hj12 : j < 12 := by omega
      have a1 := HA.out.cell j (by rw [hlen]; exact hj12)
      rw [trL_get S k j hj12] at a1
      obtain ⟨z, hz⟩ : ∃ z, tr S.ht j (S.below k) = z := ⟨_, rfl⟩
      rw [hz] at a1
      have HZ := Aside0.mk hz
      have HLN := Aside0.mk (show (trt S k (j + 1) (m - (j + 1))).length ≤ 1048576 by rw [trt_len]; omega)
      clear e1 hz
      go_wp2_with (((with_reducible refine gate_builtin (b := .append) (xs := #[.tmp 22, .tmp 26]) rfl ?_); at_builtin; refine Kd.R_append (Kd.int .i64) (w0 := w) w.heap.size rfl (.tmp 22) (.tmp 26) 28 3 (.int .i64 0) 8 rfl Try.underlying28 info3 rfl (by decide) (by omega) u6 (trt S k (j + 1) (m - (j + 1))) ((z : Int)) [.int .i64 ((z : Int))] (fun _ => True) (fun _ => False) rfl rfl ?aP (fun _ hk => hk.elim) ?aF ?aO ?aB ?aS ?aL ?_; (case aP => exact rfl); (case aB => exact (by repeat (first | (with_reducible first | exact HB.out | apply below_alloc | apply pw_below_drewN | apply below_drew1) | exact HB.out))); (case aF => exact (fun _ _ => trivial)); (case aO => exact (by (with_reducible repeat (first | apply Kd.R_alloc | apply Kd.R_drewN | apply Kd.R_drew)); exact HR.out)); (case aS => exact (below_size (by repeat (first | (with_reducible first | exact HB.out | apply below_alloc | apply pw_below_drewN | apply below_drew1) | exact HB.out)))); (case aL => have := HLN.out; omega); intro vN wN ho hb hg hat; have HRN := Aside0.mk ho; have HBN := Aside0.mk hb; have HAN := Aside0.mk (ArrAt.mk (blk_grown HA.out.heap hg (Kd.R_ne HR.out HA.out.heap (by decide)))); clear HR HB ho hb hg hat))
      clear HLN a1
      go_wp2
      go_roundg gk1
      case measure => omega
      case rel => exact ⟨j, by rfl, by omega, by omega, ⟨by have := HRN.out; rw [show m - j = (m - (j + 1)) + 1 by omega, trt_step, HZ.out]; exact this⟩, HBN, HAN⟩

end Go.Proofs.Ytehfcafmdnfamaa.G

/- Contracts typed by hand: a skiplist in memory: Node, Get (values: whole numbers) -/
namespace Go.Proofs.Ytehfcafmdnfamaa.G
open Go.RowKit Go.Proofs.YtehfcafmdnfamaaW.PrintWords Go.Proofs.YtehfcafmdnfamaaW.PrintLast Go.Proofs.YtehfcafmdnfamaaW.PrintMore
attribute [local go_sem] max2_int min2_int max_two min_two max_three min_three max_four min_four
set_option linter.unusedVariables false
set_option linter.unusedSimpArgs false

/-! a skiplist in memory: Node, Get (values: whole numbers) -/
attribute [local go_sem high] eqAk
set_option maxHeartbeats 8000000 in
set_option maxRecDepth 100000 in
theorem sk_node (g base most : Nat) (S : SL Int) (n : Nat) (x : IK × Int × Nat) (w : World) (h : SkAt w g base S most) (hn : 1 ≤ n) (hx : S.nodes[n - 1]? = some x) :
    Calls Try.prog 23 #[.pointer (some ⟨g, 0, none⟩), .int .i64 (n : Int)] w fun e w' => e = .returned (.tuple #[.agg #[.string x.1.1, .int .u64 x.1.2.1, .int .i64 x.1.2.2], encV_ x.2.1, .bool true]) ∧ Below w.heap.size w w' := by
  obtain ⟨W1, hW1⟩ : ∃ W1, w.alloc (.cells #[.string (⟨#[]⟩ : ByteArray), .int .u64 0, .int .i64 0] 37) = W1 := ⟨_, rfl⟩
  have HB1 := Aside0.mk (show Below w.heap.size w W1 by rw [← hW1]; exact below_alloc (Below.refl _ _) _)
  have HX1 := Aside0.mk (show W1.heap[w.heap.size]? = some (.cells #[.string (⟨#[]⟩ : ByteArray), .int .u64 0, .int .i64 0] 37 (0, 0)) by rw [← hW1]; exact blk_new w _)
  have H1 := Aside0.mk (h.below HB1.out)
  have HE1 := Aside0.mk hW1
  have HF := Aside0.mk h.fine
  have hgw := h.lt
  have hgn : g ≠ w.heap.size := by omega
  clear hW1
  have hlt : n - 1 < S.nodes.length := (List.getElem?_eq_some_iff.1 hx).1
  obtain ⟨b, c, ns, h1, h2, _, h4, hM⟩ := h.reads
  obtain ⟨k0, k1, k2, y, hy, hyk, k3⟩ := h4 n hn (by omega)
  have hb0 : b ≠ w.heap.size := by have := cell_lt k0; omega
  replace k0 := pw_cell_below HB1.out k0
  replace k1 := pw_cell_below HB1.out k1
  replace k2 := pw_cell_below HB1.out k2
  replace k3 := pw_cell_below HB1.out k3
  have hxy : y = x := by rw [hx] at hy; exact (Option.some.inj hy).symm
  subst hxy
  rw [← hyk] at k0 k1 k2
  obtain ⟨⟨ks, kn, kd⟩, yv, yh⟩ := y
  have q0 : W1.cell? ⟨g, 0, none⟩ = some (.slice (some ⟨b, 0, none⟩) (S.nodes.length + 1) c) := pw_cell_below HB1.out ((blk_cell h1 0).trans rfl)
  have hd : decide (1 ≤ (n : Int) ∧ (n : Int) ≤ (S.nodes.length : Int)) = true := decide_eq_true (by omega)
  have HH := Aside0.mk (sk_has g base most S (n : Int) W1 H1.out)
  rw [hd] at HH
  have hlb : S.nodes.length ≤ 1048576 := HF.out.2.1
  obtain ⟨m, hm⟩ : ∃ m, S.nodes.length + 1 = m := ⟨_, rfl⟩
  rw [hm] at q0
  have hnm : n < m := by omega
  have hmb : m ≤ 1048577 := by omega
  have z0 : W1.cell? ⟨w.heap.size, 0, none⟩ = some (.string (⟨#[]⟩ : ByteArray)) := (blk_cell HX1.out 0).trans rfl
  have z1 : W1.cell? ⟨w.heap.size, 1, none⟩ = some (.int .u64 0) := (blk_cell HX1.out 1).trans rfl
  have z2 : W1.cell? ⟨w.heap.size, 2, none⟩ = some (.int .i64 0) := (blk_cell HX1.out 2).trans rfl
  have f0 : W1.frozen? ⟨w.heap.size, 0, none⟩ = false := blk_frozen HX1.out 0
  have f1 : W1.frozen? ⟨w.heap.size, 1, none⟩ = false := blk_frozen HX1.out 1
  have f2 : W1.frozen? ⟨w.heap.size, 2, none⟩ = false := blk_frozen HX1.out 2
  clear h h1 h2 h4 hM hm hd hx hy hyk hlt hlb
  go_enter Try.func23, Try.ntmps23
  go_wp2_with fail
  rw [HE1.out]
  (with_reducible refine HH.out.mono ?_)
  rintro e w1 ⟨rfl, rfl⟩
  go_wp2_with fail
  refine start_ (n := 19) (S := fun w' => w'.cell? ⟨g, 0, none⟩ = some (.slice (some ⟨b, 0, none⟩) m c) ∧ w'.cell? ⟨b, n * 18, none⟩ = some (.string ks) ∧ w'.cell? ⟨b, n * 18 + 1, none⟩ = some (.int .u64 kn) ∧ w'.cell? ⟨b, n * 18 + 2, none⟩ = some (.int .i64 kd) ∧ w'.cell? ⟨b, n * 18 + 3, none⟩ = some (encV_ yv)) (ds := []) #[false, false, false, false, false, false, false, false, false, false, false, false, false, false, false, false, false, false, false] (by kernel_rfl) rfl rfl ⟨q0, k0, k1, k2, k3⟩ (fun hHeld => ?_)
  refine pure_ (i := 0) (N := some 14) (v := ?_) (a' := ?_) #[true, false, false, false, false, false, false, false, false, false, false, false, false, false, false, false, false, false, false] rfl rfl (by kernel_rfl) (fun _ _ _ h => h) (Or.inl ⟨by rfl, ?_⟩) ?_ ?_
  rotate_left
  · intro w'
    go_simp
    with_reducible rfl
  rotate_left
  · simp only [Act.put, List.setIfInBounds_toArray, List.set_cons_zero, List.set_cons_succ, i64_w, i32_w]
    rfl
  refine pure_ (i := 1) (N := some 15) (v := ?_) (a' := ?_) #[true, true, false, false, false, false, false, false, false, false, false, false, false, false, false, false, false, false, false] rfl rfl (by kernel_rfl) (fun _ _ _ h => h) (Or.inl ⟨by rfl, ?_⟩) ?_ ?_
  rotate_left
  · intro w'
    go_simp
    with_reducible rfl
  rotate_left
  · simp only [Act.put, List.setIfInBounds_toArray, List.set_cons_zero, List.set_cons_succ, i64_w, i32_w]
    rfl
  refine pure_ (i := 2) (N := some 16) (v := ?_) (a' := ?_) #[true, true, true, false, false, false, false, false, false, false, false, false, false, false, false, false, false, false, false] rfl rfl (by kernel_rfl) (fun _ _ _ h => h) (Or.inl ⟨by rfl, ?_⟩) ?_ ?_
  rotate_left
  · intro w'
    go_simp
    with_reducible rfl
  rotate_left
  · simp only [Act.put, List.setIfInBounds_toArray, List.set_cons_zero, List.set_cons_succ, i64_w, i32_w]
    rfl
  refine pure_ (i := 4) (N := some 18) (v := ?_) (a' := ?_) #[true, true, true, false, true, false, false, false, false, false, false, false, false, false, false, false, false, false, false] rfl rfl (by kernel_rfl) (fun _ _ _ h => h) (Or.inl ⟨by rfl, ?_⟩) ?_ ?_
  rotate_left
  · intro w'
    go_simp
    with_reducible rfl
  rotate_left
  · simp only [Act.put, List.setIfInBounds_toArray, List.set_cons_zero, List.set_cons_succ, i64_w, i32_w]
    rfl
  refine pure_ (i := 8) (N := some 22) (v := ?_) (a' := ?_) #[true, true, true, false, true, false, false, false, true, false, false, false, false, false, false, false, false, false, false] rfl rfl (by kernel_rfl) (fun _ _ _ h => h) (Or.inl ⟨by rfl, ?_⟩) ?_ ?_
  rotate_left
  · intro w'
    go_simp
    with_reducible rfl
  rotate_left
  · simp only [Act.put, List.setIfInBounds_toArray, List.set_cons_zero, List.set_cons_succ, i64_w, i32_w]
    rfl
  refine pure_ (i := 9) (N := some 23) (v := ?_) (a' := ?_) #[true, true, true, false, true, false, false, false, true, true, false, false, false, false, false, false, false, false, false] rfl rfl (by kernel_rfl) (fun _ _ _ h => h) (Or.inl ⟨by rfl, ?_⟩) ?_ ?_
  rotate_left
  · intro w'
    go_simp
    with_reducible rfl
  rotate_left
  · simp only [Act.put, List.setIfInBounds_toArray, List.set_cons_zero, List.set_cons_succ, i64_w, i32_w]
    rfl
  refine pure_ (i := 10) (N := some 24) (v := ?_) (a' := ?_) #[true, true, true, false, true, false, false, false, true, true, true, false, false, false, false, false, false, false, false] rfl rfl (by kernel_rfl) (fun _ _ _ h => h) (Or.inl ⟨by rfl, ?_⟩) ?_ ?_
  rotate_left
  · intro w'
    go_simp
    with_reducible rfl
  rotate_left
  · simp only [Act.put, List.setIfInBounds_toArray, List.set_cons_zero, List.set_cons_succ, i64_w, i32_w]
    rfl
  refine pure_ (i := 12) (N := some 26) (v := ?_) (a' := ?_) #[true, true, true, false, true, false, false, false, true, true, true, false, true, false, false, false, false, false, false] rfl rfl (by kernel_rfl) (fun _ _ _ h => h) (Or.inl ⟨by rfl, ?_⟩) ?_ ?_
  rotate_left
  · intro w'
    go_simp
    with_reducible rfl
  rotate_left
  · simp only [Act.put, List.setIfInBounds_toArray, List.set_cons_zero, List.set_cons_succ, i64_w, i32_w]
    rfl
  refine take_ (i := 3) (N := some 17) (v := ?_) (a' := ?_) #[true, true, true, true, true, false, false, false, true, true, true, false, true, false, false, false, false, false, false] rfl rfl (by kernel_rfl) (fun _ _ _ h => h) (Or.inl ⟨by rfl, ?_⟩) hHeld ?_ ?_
  rotate_left
  · rintro w' ⟨s0, s1, s2, s3, s4⟩
    go_simp
    with_reducible rfl
  rotate_left
  · simp only [Act.put, List.setIfInBounds_toArray, List.set_cons_zero, List.set_cons_succ, i64_w, i32_w]
    rfl
  refine pure_ (i := 5) (N := some 19) (v := ?_) (a' := ?_) #[true, true, true, true, true, true, false, false, true, true, true, false, true, false, false, false, false, false, false] rfl rfl (by kernel_rfl) (fun _ _ _ h => h) (Or.inl ⟨by rfl, ?_⟩) ?_ ?_
  rotate_left
  · intro w'
    go_simp
    with_reducible rfl
  rotate_left
  · simp only [Act.put, List.setIfInBounds_toArray, List.set_cons_zero, List.set_cons_succ, i64_w, i32_w]
    rfl
  refine pure_ (i := 6) (N := some 20) (v := ?_) (a' := ?_) #[true, true, true, true, true, true, true, false, true, true, true, false, true, false, false, false, false, false, false] rfl rfl (by kernel_rfl) (fun _ _ _ h => h) (Or.inl ⟨by rfl, ?_⟩) ?_ ?_
  rotate_left
  · intro w'
    go_simp
    with_reducible rfl
  rotate_left
  · simp only [Act.put, List.setIfInBounds_toArray, List.set_cons_zero, List.set_cons_succ, i64_w, i32_w]
    rfl
  refine take_ (i := 7) (N := some 21) (v := ?_) (a' := ?_) #[true, true, true, true, true, true, true, true, true, true, true, false, true, false, false, false, false, false, false] rfl rfl (by kernel_rfl) (fun _ _ _ h => h) (Or.inl ⟨by rfl, ?_⟩) hHeld ?_ ?_
  rotate_left
  · rintro w' ⟨s0, s1, s2, s3, s4⟩
    go_simp
    with_reducible rfl
  rotate_left
  · simp only [Act.put, List.setIfInBounds_toArray, List.set_cons_zero, List.set_cons_succ, i64_w, i32_w]
    rfl
  refine take_ (i := 11) (N := some 25) (v := ?_) (a' := ?_) #[true, true, true, true, true, true, true, true, true, true, true, true, true, false, false, false, false, false, false] rfl rfl (by kernel_rfl) (fun _ _ _ h => h) (Or.inl ⟨by rfl, ?_⟩) hHeld ?_ ?_
  rotate_left
  · rintro w' ⟨s0, s1, s2, s3, s4⟩
    go_simp
    with_reducible rfl
  rotate_left
  · simp only [Act.put, List.setIfInBounds_toArray, List.set_cons_zero, List.set_cons_succ, i64_w, i32_w]
    rfl
  refine pure_ (i := 13) (N := some 27) (v := ?_) (a' := ?_) #[true, true, true, true, true, true, true, true, true, true, true, true, true, true, false, false, false, false, false] rfl rfl (by kernel_rfl) (fun _ _ _ h => h) (Or.inl ⟨by rfl, ?_⟩) ?_ ?_
  rotate_left
  · intro w'
    go_simp
    with_reducible rfl
  rotate_left
  · simp only [Act.put, List.setIfInBounds_toArray, List.set_cons_zero, List.set_cons_succ, i64_w, i32_w]
    rfl
  refine pure_ (i := 14) (N := some 28) (v := ?_) (a' := ?_) #[true, true, true, true, true, true, true, true, true, true, true, true, true, true, true, false, false, false, false] rfl rfl (by kernel_rfl) (fun _ _ _ h => h) (Or.inl ⟨by rfl, ?_⟩) ?_ ?_
  rotate_left
  · intro w'
    go_simp
    with_reducible rfl
  rotate_left
  · simp only [Act.put, List.setIfInBounds_toArray, List.set_cons_zero, List.set_cons_succ, i64_w, i32_w]
    rfl
  refine take_ (i := 15) (N := some 29) (v := ?_) (a' := ?_) #[true, true, true, true, true, true, true, true, true, true, true, true, true, true, true, true, false, false, false] rfl rfl (by kernel_rfl) (fun _ _ _ h => h) (Or.inl ⟨by rfl, ?_⟩) hHeld ?_ ?_
  rotate_left
  · rintro w' ⟨s0, s1, s2, s3, s4⟩
    go_simp
    with_reducible rfl
  rotate_left
  · simp only [Act.put, List.setIfInBounds_toArray, List.set_cons_zero, List.set_cons_succ, i64_w, i32_w]
    rfl
  refine one_ (i := 16) (N := none) #[true, true, true, true, true, true, true, true, true, true, true, true, true, true, true, true, true, false, false] rfl rfl (by kernel_rfl) (by decide) (fun K hK => ?_)
  refine skip_ (w1 := ?_) (by rfl) rfl ?_ ?_
  rotate_left
  · go_simp
    rfl
  generalize hW3 : ((W1.setCell _ _).setCell _ _).setCell _ _ = w3
  have HX3 := Aside0.mk (blk_put3 hW3 HX1.out)
  have HB3 := Aside0.mk (below_set3 hW3 HB1.out (Nat.le_refl _))
  have HC3 := hW3
  clear hW3
  refine hK.out _ _ ⟨cell_ne3 HC3 hgn q0, cell_ne3 HC3 hb0 k0, cell_ne3 HC3 hb0 k1, cell_ne3 HC3 hb0 k2, cell_ne3 HC3 hb0 k3⟩ (fun hHeld => ?_)
  clear hK K
  refine pure_ (i := 17) (N := some 5) (v := ?_) (a' := ?_) #[true, true, true, true, true, true, true, true, true, true, true, true, true, true, true, true, true, true, false] rfl rfl (by kernel_rfl) (fun _ _ _ h => h) (Or.inl ⟨by rfl, ?_⟩) ?_ ?_
  rotate_left
  · intro w'
    go_simp
    with_reducible rfl
  rotate_left
  · simp only [Act.put, List.setIfInBounds_toArray, List.set_cons_zero, List.set_cons_succ, i64_w, i32_w]
    rfl
  refine pure_ (i := 18) (N := some 6) (v := ?_) (a' := ?_) #[true, true, true, true, true, true, true, true, true, true, true, true, true, true, true, true, true, true, true] rfl rfl (by kernel_rfl) (fun _ _ _ h => h) (Or.inl ⟨by rfl, ?_⟩) ?_ ?_
  rotate_left
  · intro w'
    go_simp
    with_reducible rfl
  rotate_left
  · simp only [Act.put, List.setIfInBounds_toArray, List.set_cons_zero, List.set_cons_succ, i64_w, i32_w]
    rfl
  refine done_ (by kernel_rfl) ?_
  go_wp2
  refine bodyPost_ret (results_ctt rfl _ _ w.heap.size 37 _ (0, 0) _ rfl (blk_drew HX3.out) Try.underlying37 rfl (by kernel_rfl)) rfl ?_
  exact ⟨rfl, below_drew1 HB3.out⟩
set_option maxHeartbeats 4000000 in
set_option maxRecDepth 100000 in
theorem sk_node_none (g base most : Nat) (S : SL Int) (n : Int) (w : World) (h : SkAt w g base S most) (hn : ¬ (1 ≤ n ∧ n ≤ (S.nodes.length : Int))) :
    Calls Try.prog 23 #[.pointer (some ⟨g, 0, none⟩), .int .i64 n] w fun e w' => e = .returned (.tuple #[.agg #[.string (⟨#[]⟩ : ByteArray), .int .u64 0, .int .i64 0], encV_ 0, .bool false]) ∧ Below w.heap.size w w' := by
  obtain ⟨W1, hW1⟩ : ∃ W1, w.alloc (.cells #[.string (⟨#[]⟩ : ByteArray), .int .u64 0, .int .i64 0] 37) = W1 := ⟨_, rfl⟩
  have HB1 := Aside0.mk (show Below w.heap.size w W1 by rw [← hW1]; exact below_alloc (Below.refl _ _) _)
  have HX1 := Aside0.mk (show W1.heap[w.heap.size]? = some (.cells #[.string (⟨#[]⟩ : ByteArray), .int .u64 0, .int .i64 0] 37 (0, 0)) by rw [← hW1]; exact blk_new w _)
  have H1 := Aside0.mk (h.below HB1.out)
  have HE1 := Aside0.mk hW1
  have HF := Aside0.mk h.fine
  have hgw := h.lt
  have hgn : g ≠ w.heap.size := by omega
  clear hW1
  have hd : decide (1 ≤ n ∧ n ≤ (S.nodes.length : Int)) = false := decide_eq_false hn
  have HH := Aside0.mk (sk_has g base most S n W1 H1.out)
  rw [hd] at HH
  have z0 : W1.cell? ⟨w.heap.size, 0, none⟩ = some (.string (⟨#[]⟩ : ByteArray)) := (blk_cell HX1.out 0).trans rfl
  have z1 : W1.cell? ⟨w.heap.size, 1, none⟩ = some (.int .u64 0) := (blk_cell HX1.out 1).trans rfl
  have z2 : W1.cell? ⟨w.heap.size, 2, none⟩ = some (.int .i64 0) := (blk_cell HX1.out 2).trans rfl
  have f0 : W1.frozen? ⟨w.heap.size, 0, none⟩ = false := blk_frozen HX1.out 0
  have f1 : W1.frozen? ⟨w.heap.size, 1, none⟩ = false := blk_frozen HX1.out 1
  have f2 : W1.frozen? ⟨w.heap.size, 2, none⟩ = false := blk_frozen HX1.out 2
  clear h hd hn
  go_enter Try.func23, Try.ntmps23
  go_wp2_with fail
  rw [HE1.out]
  (with_reducible refine HH.out.mono ?_)
  rintro e w1 ⟨rfl, rfl⟩
  go_wp2
  refine bodyPost_ret (results_ctt rfl _ _ w.heap.size 37 #[.string (⟨#[]⟩ : ByteArray), .int .u64 0, .int .i64 0] (0, 0) _ rfl ?bk3 Try.underlying37 rfl (by kernel_rfl)) rfl ?_
  case bk3 => exact blk_put (cs := #[.string (⟨#[]⟩ : ByteArray), .int .u64 0, .int .i64 0]) (blk_put (cs := #[.string (⟨#[]⟩ : ByteArray), .int .u64 0, .int .i64 0]) (blk_put (cs := #[.string (⟨#[]⟩ : ByteArray), .int .u64 0, .int .i64 0]) HX1.out 0 _ rfl) 1 _ rfl) 2 _ rfl
  exact ⟨rfl, below_set (below_set (below_set HB1.out (Nat.le_refl _)) (Nat.le_refl _)) (Nat.le_refl _)⟩
set_option maxHeartbeats 8000000 in
set_option maxRecDepth 100000 in
theorem sk_get_0 (g base most : Nat) (S : SL Int) (k : IK) (w : World) (h : SkAt w g base S most) (hz : S.seek k = 0) :
    Calls Try.prog 32 #[.pointer (some ⟨g, 0, none⟩), .agg #[.string k.1, .int .u64 k.2.1, .int .i64 k.2.2]] w fun e w' => e = .returned (.tuple #[encV_ 0, .bool false]) ∧ Below w.heap.size w w' := by
  obtain ⟨W1, hW1⟩ : ∃ W1, w.alloc (.cells #[.string k.1, .int .u64 k.2.1, .int .i64 k.2.2] 37) = W1 := ⟨_, rfl⟩
  have HB1 := Aside0.mk (show Below w.heap.size w W1 by rw [← hW1]; exact below_alloc (Below.refl _ _) _)
  have HX1 := Aside0.mk (show W1.heap[w.heap.size]? = some (.cells #[.string k.1, .int .u64 k.2.1, .int .i64 k.2.2] 37 (0, 0)) by rw [← hW1]; exact blk_new w _)
  have H1 := Aside0.mk (h.below HB1.out)
  have HE1 := Aside0.mk hW1
  have HF := Aside0.mk h.fine
  clear hW1
  have x0 := blk_cell HX1.out 0
  have x1 := blk_cell HX1.out 1
  have x2 := blk_cell HX1.out 2
  have HSE := Aside0.mk (sk_seek g base most S k W1 H1.out)
  rw [hz] at HSE
  clear h hz
  go_enter Try.func32, Try.ntmps32
  go_wp2_with fail
  rw [HE1.out]
  clear x0 x1 x2
  (with_reducible refine HSE.out.mono ?_)
  rintro e w2 ⟨rfl, hb⟩
  have HB2 := Aside0.mk (below_step HB1.out hb)
  clear hb
  go_wp2_with fail
  refine start_ (n := 14) (S := fun w' => True) (ds := []) #[false, false, false, false, false, false, false, false, false, false, false, false, false, false] (by kernel_rfl) rfl rfl trivial (fun hHeld => ?_)
  refine pure_ (i := 0) (N := some 11) (v := ?_) (a' := ?_) #[true, false, false, false, false, false, false, false, false, false, false, false, false, false] rfl rfl (by kernel_rfl) (fun _ _ _ h => h) (Or.inl ⟨by rfl, ?_⟩) ?_ ?_
  rotate_left
  · intro w'
    go_simp
    with_reducible rfl
  rotate_left
  · simp only [Act.put, List.setIfInBounds_toArray, List.set_cons_zero, List.set_cons_succ, i64_w, i32_w]
    rfl
  refine pure_ (i := 1) (N := some 12) (v := ?_) (a' := ?_) #[true, true, false, false, false, false, false, false, false, false, false, false, false, false] rfl rfl (by kernel_rfl) (fun _ _ _ h => h) (Or.inl ⟨by rfl, ?_⟩) ?_ ?_
  rotate_left
  · intro w'
    go_simp
    with_reducible rfl
  rotate_left
  · simp only [Act.put, List.setIfInBounds_toArray, List.set_cons_zero, List.set_cons_succ, i64_w, i32_w]
    rfl
  refine pure_ (i := 2) (N := some 13) (v := ?_) (a' := ?_) #[true, true, true, false, false, false, false, false, false, false, false, false, false, false] rfl rfl (by kernel_rfl) (fun _ _ _ h => h) (Or.inl ⟨by rfl, ?_⟩) ?_ ?_
  rotate_left
  · intro w'
    go_simp
    with_reducible rfl
  rotate_left
  · simp only [Act.put, List.setIfInBounds_toArray, List.set_cons_zero, List.set_cons_succ, i64_w, i32_w]
    rfl
  refine pure_ (i := 3) (N := some 14) (v := undef) (a' := ?_) #[true, true, true, true, false, false, false, false, false, false, false, false, false, false] rfl rfl (by kernel_rfl) (fun _ _ _ h => h) (Or.inr ⟨by rfl, rfl⟩) ?_ ?_
  rotate_left
  · simp only [Act.put, List.setIfInBounds_toArray, List.set_cons_zero, List.set_cons_succ, i64_w, i32_w]
    rfl
  refine pure_ (i := 4) (N := some 15) (v := undef) (a' := ?_) #[true, true, true, true, true, false, false, false, false, false, false, false, false, false] rfl rfl (by kernel_rfl) (fun _ _ _ h => h) (Or.inr ⟨by rfl, rfl⟩) ?_ ?_
  rotate_left
  · simp only [Act.put, List.setIfInBounds_toArray, List.set_cons_zero, List.set_cons_succ, i64_w, i32_w]
    rfl
  refine pure_ (i := 5) (N := some 16) (v := undef) (a' := ?_) #[true, true, true, true, true, true, false, false, false, false, false, false, false, false] rfl rfl (by kernel_rfl) (fun _ _ _ h => h) (Or.inr ⟨by rfl, rfl⟩) ?_ ?_
  rotate_left
  · simp only [Act.put, List.setIfInBounds_toArray, List.set_cons_zero, List.set_cons_succ, i64_w, i32_w]
    rfl
  refine pure_ (i := 6) (N := some 17) (v := undef) (a' := ?_) #[true, true, true, true, true, true, true, false, false, false, false, false, false, false] rfl rfl (by kernel_rfl) (fun _ _ _ h => h) (Or.inr ⟨by rfl, rfl⟩) ?_ ?_
  rotate_left
  · simp only [Act.put, List.setIfInBounds_toArray, List.set_cons_zero, List.set_cons_succ, i64_w, i32_w]
    rfl
  refine pure_ (i := 7) (N := some 18) (v := undef) (a' := ?_) #[true, true, true, true, true, true, true, true, false, false, false, false, false, false] rfl rfl (by kernel_rfl) (fun _ _ _ h => h) (Or.inr ⟨by rfl, rfl⟩) ?_ ?_
  rotate_left
  · simp only [Act.put, List.setIfInBounds_toArray, List.set_cons_zero, List.set_cons_succ, i64_w, i32_w]
    rfl
  refine pure_ (i := 8) (N := some 19) (v := undef) (a' := ?_) #[true, true, true, true, true, true, true, true, true, false, false, false, false, false] rfl rfl (by kernel_rfl) (fun _ _ _ h => h) (Or.inr ⟨by rfl, rfl⟩) ?_ ?_
  rotate_left
  · simp only [Act.put, List.setIfInBounds_toArray, List.set_cons_zero, List.set_cons_succ, i64_w, i32_w]
    rfl
  refine pure_ (i := 9) (N := some 20) (v := undef) (a' := ?_) #[true, true, true, true, true, true, true, true, true, true, false, false, false, false] rfl rfl (by kernel_rfl) (fun _ _ _ h => h) (Or.inr ⟨by rfl, rfl⟩) ?_ ?_
  rotate_left
  · simp only [Act.put, List.setIfInBounds_toArray, List.set_cons_zero, List.set_cons_succ, i64_w, i32_w]
    rfl
  refine pure_ (i := 10) (N := some 21) (v := undef) (a' := ?_) #[true, true, true, true, true, true, true, true, true, true, true, false, false, false] rfl rfl (by kernel_rfl) (fun _ _ _ h => h) (Or.inr ⟨by rfl, rfl⟩) ?_ ?_
  rotate_left
  · simp only [Act.put, List.setIfInBounds_toArray, List.set_cons_zero, List.set_cons_succ, i64_w, i32_w]
    rfl
  refine pure_ (i := 11) (N := some 22) (v := undef) (a' := ?_) #[true, true, true, true, true, true, true, true, true, true, true, true, false, false] rfl rfl (by kernel_rfl) (fun _ _ _ h => h) (Or.inr ⟨by rfl, rfl⟩) ?_ ?_
  rotate_left
  · simp only [Act.put, List.setIfInBounds_toArray, List.set_cons_zero, List.set_cons_succ, i64_w, i32_w]
    rfl
  refine pure_ (i := 12) (N := some 23) (v := undef) (a' := ?_) #[true, true, true, true, true, true, true, true, true, true, true, true, true, false] rfl rfl (by kernel_rfl) (fun _ _ _ h => h) (Or.inr ⟨by rfl, rfl⟩) ?_ ?_
  rotate_left
  · simp only [Act.put, List.setIfInBounds_toArray, List.set_cons_zero, List.set_cons_succ, i64_w, i32_w]
    rfl
  refine pure_ (i := 13) (N := some 24) (v := ?_) (a' := ?_) #[true, true, true, true, true, true, true, true, true, true, true, true, true, true] rfl rfl (by kernel_rfl) (fun _ _ _ h => h) (Or.inl ⟨by rfl, ?_⟩) ?_ ?_
  rotate_left
  · intro w'
    go_simp
    with_reducible rfl
  rotate_left
  · simp only [Act.put, List.setIfInBounds_toArray, List.set_cons_zero, List.set_cons_succ, i64_w, i32_w]
    rfl
  refine done_ (by kernel_rfl) ?_
  go_wp2
  refine bodyPost_ret (by simp [results, Try.results32, go_sem]; rfl) rfl ?_
  exact ⟨rfl, below_drew1 HB2.out⟩
set_option maxHeartbeats 8000000 in
set_option maxRecDepth 100000 in
theorem sk_get_ne (g base most : Nat) (S : SL Int) (k : IK) (x : IK × Int × Nat) (w : World) (h : SkAt w g base S most) (hz : 1 ≤ S.seek k) (hx : S.nodes[S.seek k - 1]? = some x) (hk : x.1 ≠ k) :
    Calls Try.prog 32 #[.pointer (some ⟨g, 0, none⟩), .agg #[.string k.1, .int .u64 k.2.1, .int .i64 k.2.2]] w fun e w' => e = .returned (.tuple #[encV_ 0, .bool false]) ∧ Below w.heap.size w w' := by
  obtain ⟨W1, hW1⟩ : ∃ W1, w.alloc (.cells #[.string k.1, .int .u64 k.2.1, .int .i64 k.2.2] 37) = W1 := ⟨_, rfl⟩
  have HB1 := Aside0.mk (show Below w.heap.size w W1 by rw [← hW1]; exact below_alloc (Below.refl _ _) _)
  have HX1 := Aside0.mk (show W1.heap[w.heap.size]? = some (.cells #[.string k.1, .int .u64 k.2.1, .int .i64 k.2.2] 37 (0, 0)) by rw [← hW1]; exact blk_new w _)
  have H1 := Aside0.mk (h.below HB1.out)
  have HE1 := Aside0.mk hW1
  have HF := Aside0.mk h.fine
  clear hW1
  have x0 := blk_cell HX1.out 0
  have x1 := blk_cell HX1.out 1
  have x2 := blk_cell HX1.out 2
  have HSE := Aside0.mk (sk_seek g base most S k W1 H1.out)
  have hsl := seek_lt h.fine.1 k
  have hlb : S.nodes.length ≤ 1048576 := h.fine.2.1
  obtain ⟨n, hn⟩ : ∃ n, S.seek k = n := ⟨_, rfl⟩
  rw [hn] at HSE hx hz hsl
  obtain ⟨b, c, ns, h1, h2, _, h4, hM⟩ := H1.out.reads
  obtain ⟨k0, k1, k2, y, hy, hyk, k3⟩ := h4 n hz (by omega)
  have hxy : y = x := by rw [hx] at hy; exact (Option.some.inj hy).symm
  subst hxy
  rw [← hyk] at k0 k1 k2
  have hbq := ikey_bne y.1 k
  obtain ⟨⟨ks, kn, kd⟩, yv, yh⟩ := y
  dsimp only at k0 k1 k2 k3 hbq hk
  have q0 : W1.cell? ⟨g, 0, none⟩ = some (.slice (some ⟨b, 0, none⟩) (S.nodes.length + 1) c) := (blk_cell h1 0).trans rfl
  obtain ⟨m, hm⟩ : ∃ m, S.nodes.length + 1 = m := ⟨_, rfl⟩
  rw [hm] at q0
  have hnm : n < m := by omega
  have hmb : m ≤ 1048577 := by omega
  have b3 : ((n : Int) == 0) = false := by simp; omega
  have b4 : ((n : Int) != 0) = true := by simp; omega
  have HBQ := Aside0.mk (hbq.trans (show (!decide ((ks, kn, kd) = k)) = true by rw [decide_eq_false hk]; rfl))
  clear h h1 h2 h4 hM hm hx hy hyk hlb hn hbq hk hsl
  go_enter Try.func32, Try.ntmps32
  go_wp2_with fail
  rw [HE1.out]
  (with_reducible refine HSE.out.mono ?_)
  rintro e w2 ⟨rfl, hb⟩
  have HB2 := Aside0.mk (below_step HB1.out hb)
  replace q0 := pw_cell_below hb q0
  replace k0 := pw_cell_below hb k0
  replace k1 := pw_cell_below hb k1
  replace k2 := pw_cell_below hb k2
  replace k3 := pw_cell_below hb k3
  replace x0 := pw_cell_below hb x0
  replace x1 := pw_cell_below hb x1
  replace x2 := pw_cell_below hb x2
  clear hb
  go_wp2_with fail
  refine start_ (n := 14) (S := fun w' => w'.cell? ⟨g, 0, none⟩ = some (.slice (some ⟨b, 0, none⟩) m c) ∧ w'.cell? ⟨b, n * 18, none⟩ = some (.string ks) ∧ w'.cell? ⟨b, n * 18 + 1, none⟩ = some (.int .u64 kn) ∧ w'.cell? ⟨b, n * 18 + 2, none⟩ = some (.int .i64 kd) ∧ w'.cell? ⟨w.heap.size, 0, none⟩ = some (.string k.1) ∧ w'.cell? ⟨w.heap.size, 1, none⟩ = some (.int .u64 k.2.1) ∧ w'.cell? ⟨w.heap.size, 2, none⟩ = some (.int .i64 k.2.2)) (ds := []) #[false, false, false, false, false, false, false, false, false, false, false, false, false, false] (by kernel_rfl) rfl rfl ⟨q0, k0, k1, k2, x0, x1, x2⟩ (fun hHeld => ?_)
  refine pure_ (i := 0) (N := some 11) (v := ?_) (a' := ?_) #[true, false, false, false, false, false, false, false, false, false, false, false, false, false] rfl rfl (by kernel_rfl) (fun _ _ _ h => h) (Or.inl ⟨by rfl, ?_⟩) ?_ ?_
  rotate_left
  · intro w'
    go_simp
    with_reducible rfl
  rotate_left
  · simp only [Act.put, List.setIfInBounds_toArray, List.set_cons_zero, List.set_cons_succ, i64_w, i32_w]
    rfl
  refine pure_ (i := 1) (N := some 12) (v := ?_) (a' := ?_) #[true, true, false, false, false, false, false, false, false, false, false, false, false, false] rfl rfl (by kernel_rfl) (fun _ _ _ h => h) (Or.inl ⟨by rfl, ?_⟩) ?_ ?_
  rotate_left
  · intro w'
    go_simp
    with_reducible rfl
  rotate_left
  · simp only [Act.put, List.setIfInBounds_toArray, List.set_cons_zero, List.set_cons_succ, i64_w, i32_w]
    rfl
  refine pure_ (i := 2) (N := some 13) (v := ?_) (a' := ?_) #[true, true, true, false, false, false, false, false, false, false, false, false, false, false] rfl rfl (by kernel_rfl) (fun _ _ _ h => h) (Or.inl ⟨by rfl, ?_⟩) ?_ ?_
  rotate_left
  · intro w'
    go_simp
    with_reducible rfl
  rotate_left
  · simp only [Act.put, List.setIfInBounds_toArray, List.set_cons_zero, List.set_cons_succ, i64_w, i32_w]
    rfl
  refine pure_ (i := 3) (N := some 14) (v := ?_) (a' := ?_) #[true, true, true, true, false, false, false, false, false, false, false, false, false, false] rfl rfl (by kernel_rfl) (fun _ _ _ h => h) (Or.inl ⟨by rfl, ?_⟩) ?_ ?_
  rotate_left
  · intro w'
    go_simp
    with_reducible rfl
  rotate_left
  · simp only [Act.put, List.setIfInBounds_toArray, List.set_cons_zero, List.set_cons_succ, i64_w, i32_w]
    rfl
  refine pure_ (i := 4) (N := some 15) (v := ?_) (a' := ?_) #[true, true, true, true, true, false, false, false, false, false, false, false, false, false] rfl rfl (by kernel_rfl) (fun _ _ _ h => h) (Or.inl ⟨by rfl, ?_⟩) ?_ ?_
  rotate_left
  · intro w'
    go_simp
    with_reducible rfl
  rotate_left
  · simp only [Act.put, List.setIfInBounds_toArray, List.set_cons_zero, List.set_cons_succ, i64_w, i32_w]
    rfl
  refine pure_ (i := 5) (N := some 16) (v := ?_) (a' := ?_) #[true, true, true, true, true, true, false, false, false, false, false, false, false, false] rfl rfl (by kernel_rfl) (fun _ _ _ h => h) (Or.inl ⟨by rfl, ?_⟩) ?_ ?_
  rotate_left
  · intro w'
    go_simp
    with_reducible rfl
  rotate_left
  · simp only [Act.put, List.setIfInBounds_toArray, List.set_cons_zero, List.set_cons_succ, i64_w, i32_w]
    rfl
  refine pure_ (i := 7) (N := some 18) (v := ?_) (a' := ?_) #[true, true, true, true, true, true, false, true, false, false, false, false, false, false] rfl rfl (by kernel_rfl) (fun _ _ _ h => h) (Or.inl ⟨by rfl, ?_⟩) ?_ ?_
  rotate_left
  · intro w'
    go_simp
    with_reducible rfl
  rotate_left
  · simp only [Act.put, List.setIfInBounds_toArray, List.set_cons_zero, List.set_cons_succ, i64_w, i32_w]
    rfl
  refine take_ (i := 6) (N := some 17) (v := ?_) (a' := ?_) #[true, true, true, true, true, true, true, true, false, false, false, false, false, false] rfl rfl (by kernel_rfl) (fun _ _ _ h => h) (Or.inl ⟨by rfl, ?_⟩) hHeld ?_ ?_
  rotate_left
  · rintro w' ⟨s0, s1, s2, s3, s4, s5, s6⟩
    go_simp
    with_reducible rfl
  rotate_left
  · simp only [Act.put, List.setIfInBounds_toArray, List.set_cons_zero, List.set_cons_succ, i64_w, i32_w]
    rfl
  refine pure_ (i := 8) (N := some 19) (v := ?_) (a' := ?_) #[true, true, true, true, true, true, true, true, true, false, false, false, false, false] rfl rfl (by kernel_rfl) (fun _ _ _ h => h) (Or.inl ⟨by rfl, ?_⟩) ?_ ?_
  rotate_left
  · intro w'
    go_simp
    with_reducible rfl
  rotate_left
  · simp only [Act.put, List.setIfInBounds_toArray, List.set_cons_zero, List.set_cons_succ, i64_w, i32_w]
    rfl
  refine pure_ (i := 9) (N := some 20) (v := ?_) (a' := ?_) #[true, true, true, true, true, true, true, true, true, true, false, false, false, false] rfl rfl (by kernel_rfl) (fun _ _ _ h => h) (Or.inl ⟨by rfl, ?_⟩) ?_ ?_
  rotate_left
  · intro w'
    go_simp
    with_reducible rfl
  rotate_left
  · simp only [Act.put, List.setIfInBounds_toArray, List.set_cons_zero, List.set_cons_succ, i64_w, i32_w]
    rfl
  refine take_ (i := 10) (N := some 21) (v := ?_) (a' := ?_) #[true, true, true, true, true, true, true, true, true, true, true, false, false, false] rfl rfl (by kernel_rfl) (fun _ _ _ h => h) (Or.inl ⟨by rfl, ?_⟩) hHeld ?_ ?_
  rotate_left
  · rintro w' ⟨s0, s1, s2, s3, s4, s5, s6⟩
    go_simp
    with_reducible rfl
  rotate_left
  · simp only [Act.put, List.setIfInBounds_toArray, List.set_cons_zero, List.set_cons_succ, i64_w, i32_w]
    rfl
  refine take_ (i := 11) (N := some 22) (v := ?_) (a' := ?_) #[true, true, true, true, true, true, true, true, true, true, true, true, false, false] rfl rfl (by kernel_rfl) (fun _ _ _ h => h) (Or.inl ⟨by rfl, ?_⟩) hHeld ?_ ?_
  rotate_left
  · rintro w' ⟨s0, s1, s2, s3, s4, s5, s6⟩
    go_simp
    with_reducible rfl
  rotate_left
  · simp only [Act.put, List.setIfInBounds_toArray, List.set_cons_zero, List.set_cons_succ, i64_w, i32_w]
    rfl
  refine pure_ (i := 12) (N := some 23) (v := ?_) (a' := ?_) #[true, true, true, true, true, true, true, true, true, true, true, true, true, false] rfl rfl (by kernel_rfl) (fun _ _ _ h => h) (Or.inl ⟨by rfl, ?_⟩) ?_ ?_
  rotate_left
  · intro w'
    go_simp
    with_reducible rfl
  rotate_left
  · simp only [Act.put, List.setIfInBounds_toArray, List.set_cons_zero, List.set_cons_succ, i64_w, i32_w]
    rfl
  refine pure_ (i := 13) (N := some 24) (v := ?_) (a' := ?_) #[true, true, true, true, true, true, true, true, true, true, true, true, true, true] rfl rfl (by kernel_rfl) (fun _ _ _ h => h) (Or.inl ⟨by rfl, ?_⟩) ?_ ?_
  rotate_left
  · intro w'
    go_simp
    with_reducible rfl
  rotate_left
  · simp only [Act.put, List.setIfInBounds_toArray, List.set_cons_zero, List.set_cons_succ, i64_w, i32_w]
    rfl
  refine done_ (by kernel_rfl) ?_
  simp only [HBQ.out]
  go_wp2
  refine bodyPost_ret (by simp [results, Try.results32, go_sem]; rfl) rfl ?_
  exact ⟨rfl, below_drew1 HB2.out⟩
set_option maxHeartbeats 8000000 in
set_option maxRecDepth 100000 in
theorem sk_get (g base most : Nat) (S : SL Int) (k : IK) (x : IK × Int × Nat) (w : World) (h : SkAt w g base S most) (hz : 1 ≤ S.seek k) (hx : S.nodes[S.seek k - 1]? = some x) (hk : x.1 = k) :
    Calls Try.prog 32 #[.pointer (some ⟨g, 0, none⟩), .agg #[.string k.1, .int .u64 k.2.1, .int .i64 k.2.2]] w fun e w' => e = .returned (.tuple #[encV_ x.2.1, .bool true]) ∧ Below w.heap.size w w' := by
  obtain ⟨W1, hW1⟩ : ∃ W1, w.alloc (.cells #[.string k.1, .int .u64 k.2.1, .int .i64 k.2.2] 37) = W1 := ⟨_, rfl⟩
  have HB1 := Aside0.mk (show Below w.heap.size w W1 by rw [← hW1]; exact below_alloc (Below.refl _ _) _)
  have HX1 := Aside0.mk (show W1.heap[w.heap.size]? = some (.cells #[.string k.1, .int .u64 k.2.1, .int .i64 k.2.2] 37 (0, 0)) by rw [← hW1]; exact blk_new w _)
  have H1 := Aside0.mk (h.below HB1.out)
  have HE1 := Aside0.mk hW1
  have HF := Aside0.mk h.fine
  clear hW1
  have x0 := blk_cell HX1.out 0
  have x1 := blk_cell HX1.out 1
  have x2 := blk_cell HX1.out 2
  have HSE := Aside0.mk (sk_seek g base most S k W1 H1.out)
  have hsl := seek_lt h.fine.1 k
  have hlb : S.nodes.length ≤ 1048576 := h.fine.2.1
  obtain ⟨n, hn⟩ : ∃ n, S.seek k = n := ⟨_, rfl⟩
  rw [hn] at HSE hx hz hsl
  obtain ⟨b, c, ns, h1, h2, _, h4, hM⟩ := H1.out.reads
  obtain ⟨k0, k1, k2, y, hy, hyk, k3⟩ := h4 n hz (by omega)
  have hxy : y = x := by rw [hx] at hy; exact (Option.some.inj hy).symm
  subst hxy
  rw [← hyk] at k0 k1 k2
  have hbq := ikey_bne y.1 k
  obtain ⟨⟨ks, kn, kd⟩, yv, yh⟩ := y
  dsimp only at k0 k1 k2 k3 hbq hk
  have q0 : W1.cell? ⟨g, 0, none⟩ = some (.slice (some ⟨b, 0, none⟩) (S.nodes.length + 1) c) := (blk_cell h1 0).trans rfl
  obtain ⟨m, hm⟩ : ∃ m, S.nodes.length + 1 = m := ⟨_, rfl⟩
  rw [hm] at q0
  have hnm : n < m := by omega
  have hmb : m ≤ 1048577 := by omega
  have b3 : ((n : Int) == 0) = false := by simp; omega
  have b4 : ((n : Int) != 0) = true := by simp; omega
  have HBQ := Aside0.mk (hbq.trans (show (!decide ((ks, kn, kd) = k)) = false by rw [decide_eq_true hk]; rfl))
  clear h h1 h2 h4 hM hm hx hy hyk hlb hn hbq hk hsl
  go_enter Try.func32, Try.ntmps32
  go_wp2_with fail
  rw [HE1.out]
  (with_reducible refine HSE.out.mono ?_)
  rintro e w2 ⟨rfl, hb⟩
  have HB2 := Aside0.mk (below_step HB1.out hb)
  replace q0 := pw_cell_below hb q0
  replace k0 := pw_cell_below hb k0
  replace k1 := pw_cell_below hb k1
  replace k2 := pw_cell_below hb k2
  replace k3 := pw_cell_below hb k3
  replace x0 := pw_cell_below hb x0
  replace x1 := pw_cell_below hb x1
  replace x2 := pw_cell_below hb x2
  clear hb
  go_wp2_with fail
  refine start_ (n := 14) (S := fun w' => w'.cell? ⟨g, 0, none⟩ = some (.slice (some ⟨b, 0, none⟩) m c) ∧ w'.cell? ⟨b, n * 18, none⟩ = some (.string ks) ∧ w'.cell? ⟨b, n * 18 + 1, none⟩ = some (.int .u64 kn) ∧ w'.cell? ⟨b, n * 18 + 2, none⟩ = some (.int .i64 kd) ∧ w'.cell? ⟨w.heap.size, 0, none⟩ = some (.string k.1) ∧ w'.cell? ⟨w.heap.size, 1, none⟩ = some (.int .u64 k.2.1) ∧ w'.cell? ⟨w.heap.size, 2, none⟩ = some (.int .i64 k.2.2)) (ds := []) #[false, false, false, false, false, false, false, false, false, false, false, false, false, false] (by kernel_rfl) rfl rfl ⟨q0, k0, k1, k2, x0, x1, x2⟩ (fun hHeld => ?_)
  refine pure_ (i := 0) (N := some 11) (v := ?_) (a' := ?_) #[true, false, false, false, false, false, false, false, false, false, false, false, false, false] rfl rfl (by kernel_rfl) (fun _ _ _ h => h) (Or.inl ⟨by rfl, ?_⟩) ?_ ?_
  rotate_left
  · intro w'
    go_simp
    with_reducible rfl
  rotate_left
  · simp only [Act.put, List.setIfInBounds_toArray, List.set_cons_zero, List.set_cons_succ, i64_w, i32_w]
    rfl
  refine pure_ (i := 1) (N := some 12) (v := ?_) (a' := ?_) #[true, true, false, false, false, false, false, false, false, false, false, false, false, false] rfl rfl (by kernel_rfl) (fun _ _ _ h => h) (Or.inl ⟨by rfl, ?_⟩) ?_ ?_
  rotate_left
  · intro w'
    go_simp
    with_reducible rfl
  rotate_left
  · simp only [Act.put, List.setIfInBounds_toArray, List.set_cons_zero, List.set_cons_succ, i64_w, i32_w]
    rfl
  refine pure_ (i := 2) (N := some 13) (v := ?_) (a' := ?_) #[true, true, true, false, false, false, false, false, false, false, false, false, false, false] rfl rfl (by kernel_rfl) (fun _ _ _ h => h) (Or.inl ⟨by rfl, ?_⟩) ?_ ?_
  rotate_left
  · intro w'
    go_simp
    with_reducible rfl
  rotate_left
  · simp only [Act.put, List.setIfInBounds_toArray, List.set_cons_zero, List.set_cons_succ, i64_w, i32_w]
    rfl
  refine pure_ (i := 3) (N := some 14) (v := ?_) (a' := ?_) #[true, true, true, true, false, false, false, false, false, false, false, false, false, false] rfl rfl (by kernel_rfl) (fun _ _ _ h => h) (Or.inl ⟨by rfl, ?_⟩) ?_ ?_
  rotate_left
  · intro w'
    go_simp
    with_reducible rfl
  rotate_left
  · simp only [Act.put, List.setIfInBounds_toArray, List.set_cons_zero, List.set_cons_succ, i64_w, i32_w]
    rfl
  refine pure_ (i := 4) (N := some 15) (v := ?_) (a' := ?_) #[true, true, true, true, true, false, false, false, false, false, false, false, false, false] rfl rfl (by kernel_rfl) (fun _ _ _ h => h) (Or.inl ⟨by rfl, ?_⟩) ?_ ?_
  rotate_left
  · intro w'
    go_simp
    with_reducible rfl
  rotate_left
  · simp only [Act.put, List.setIfInBounds_toArray, List.set_cons_zero, List.set_cons_succ, i64_w, i32_w]
    rfl
  refine pure_ (i := 5) (N := some 16) (v := ?_) (a' := ?_) #[true, true, true, true, true, true, false, false, false, false, false, false, false, false] rfl rfl (by kernel_rfl) (fun _ _ _ h => h) (Or.inl ⟨by rfl, ?_⟩) ?_ ?_
  rotate_left
  · intro w'
    go_simp
    with_reducible rfl
  rotate_left
  · simp only [Act.put, List.setIfInBounds_toArray, List.set_cons_zero, List.set_cons_succ, i64_w, i32_w]
    rfl
  refine pure_ (i := 7) (N := some 18) (v := ?_) (a' := ?_) #[true, true, true, true, true, true, false, true, false, false, false, false, false, false] rfl rfl (by kernel_rfl) (fun _ _ _ h => h) (Or.inl ⟨by rfl, ?_⟩) ?_ ?_
  rotate_left
  · intro w'
    go_simp
    with_reducible rfl
  rotate_left
  · simp only [Act.put, List.setIfInBounds_toArray, List.set_cons_zero, List.set_cons_succ, i64_w, i32_w]
    rfl
  refine take_ (i := 6) (N := some 17) (v := ?_) (a' := ?_) #[true, true, true, true, true, true, true, true, false, false, false, false, false, false] rfl rfl (by kernel_rfl) (fun _ _ _ h => h) (Or.inl ⟨by rfl, ?_⟩) hHeld ?_ ?_
  rotate_left
  · rintro w' ⟨s0, s1, s2, s3, s4, s5, s6⟩
    go_simp
    with_reducible rfl
  rotate_left
  · simp only [Act.put, List.setIfInBounds_toArray, List.set_cons_zero, List.set_cons_succ, i64_w, i32_w]
    rfl
  refine pure_ (i := 8) (N := some 19) (v := ?_) (a' := ?_) #[true, true, true, true, true, true, true, true, true, false, false, false, false, false] rfl rfl (by kernel_rfl) (fun _ _ _ h => h) (Or.inl ⟨by rfl, ?_⟩) ?_ ?_
  rotate_left
  · intro w'
    go_simp
    with_reducible rfl
  rotate_left
  · simp only [Act.put, List.setIfInBounds_toArray, List.set_cons_zero, List.set_cons_succ, i64_w, i32_w]
    rfl
  refine pure_ (i := 9) (N := some 20) (v := ?_) (a' := ?_) #[true, true, true, true, true, true, true, true, true, true, false, false, false, false] rfl rfl (by kernel_rfl) (fun _ _ _ h => h) (Or.inl ⟨by rfl, ?_⟩) ?_ ?_
  rotate_left
  · intro w'
    go_simp
    with_reducible rfl
  rotate_left
  · simp only [Act.put, List.setIfInBounds_toArray, List.set_cons_zero, List.set_cons_succ, i64_w, i32_w]
    rfl
  refine take_ (i := 10) (N := some 21) (v := ?_) (a' := ?_) #[true, true, true, true, true, true, true, true, true, true, true, false, false, false] rfl rfl (by kernel_rfl) (fun _ _ _ h => h) (Or.inl ⟨by rfl, ?_⟩) hHeld ?_ ?_
  rotate_left
  · rintro w' ⟨s0, s1, s2, s3, s4, s5, s6⟩
    go_simp
    with_reducible rfl
  rotate_left
  · simp only [Act.put, List.setIfInBounds_toArray, List.set_cons_zero, List.set_cons_succ, i64_w, i32_w]
    rfl
  refine take_ (i := 11) (N := some 22) (v := ?_) (a' := ?_) #[true, true, true, true, true, true, true, true, true, true, true, true, false, false] rfl rfl (by kernel_rfl) (fun _ _ _ h => h) (Or.inl ⟨by rfl, ?_⟩) hHeld ?_ ?_
  rotate_left
  · rintro w' ⟨s0, s1, s2, s3, s4, s5, s6⟩
    go_simp
    with_reducible rfl
  rotate_left
  · simp only [Act.put, List.setIfInBounds_toArray, List.set_cons_zero, List.set_cons_succ, i64_w, i32_w]
    rfl
  refine pure_ (i := 12) (N := some 23) (v := ?_) (a' := ?_) #[true, true, true, true, true, true, true, true, true, true, true, true, true, false] rfl rfl (by kernel_rfl) (fun _ _ _ h => h) (Or.inl ⟨by rfl, ?_⟩) ?_ ?_
  rotate_left
  · intro w'
    go_simp
    with_reducible rfl
  rotate_left
  · simp only [Act.put, List.setIfInBounds_toArray, List.set_cons_zero, List.set_cons_succ, i64_w, i32_w]
    rfl
  refine pure_ (i := 13) (N := some 24) (v := ?_) (a' := ?_) #[true, true, true, true, true, true, true, true, true, true, true, true, true, true] rfl rfl (by kernel_rfl) (fun _ _ _ h => h) (Or.inl ⟨by rfl, ?_⟩) ?_ ?_
  rotate_left
  · intro w'
    go_simp
    with_reducible rfl
  rotate_left
  · simp only [Act.put, List.setIfInBounds_toArray, List.set_cons_zero, List.set_cons_succ, i64_w, i32_w]
    rfl
  refine done_ (by kernel_rfl) ?_
  simp only [HBQ.out]
  go_wp2
  refine bodyPost_ret (by simp [results, Try.results32, go_sem]; rfl) rfl ?_
  exact ⟨rfl, below_drew1 HB2.out⟩

end Go.Proofs.Ytehfcafmdnfamaa.G

/- Printed by the session's program over the kit's print, out of the translation: functions as plain Lean functions, and the proofs that the calls come to them. -/
namespace Go.Proofs.Ytehfcafmdnfamaa.G
open Go.RowKit Go.Proofs.YtehfcafmdnfamaaW.PrintWords Go.Proofs.YtehfcafmdnfamaaW.PrintLast Go.Proofs.YtehfcafmdnfamaaW.PrintMore
attribute [local go_sem] max2_int min2_int max_two min_two max_three min_three max_four min_four   -- for this text's walks alone
set_option linter.unusedVariables false
set_option linter.unusedSimpArgs false

/-! ### morainelaw08_subset: function 33 -/
mutual
def morainelaw08_subset.l0 : Nat → List Int → List Int → Int → Int → Option (Bool)
  | 0, _, _, _, _ => none
  | k + 1, x0, x1, x5, x6 => if x6 < (x1.length : Int) then (morainelaw08_subset.j1 k x0 x1 x5 x6 (decide (x5 < (x0.length : Int)))) else (morainelaw08_subset.j1 k x0 x1 x5 x6 false)
def morainelaw08_subset.j1 : Nat → List Int → List Int → Int → Int → Bool → Option (Bool)
  | 0, _, _, _, _, _ => none
  | k + 1, x0, x1, x5, x6, x16 => if x16 = true then (if 0 ≤ x5 then (if x5 < (x0.length : Int) then (if 0 ≤ x6 then (if x6 < (x1.length : Int) then (if (rd x0 x5) = (rd x1 x6) then (morainelaw08_subset.l0 k x0 x1 (wrap64 (x5 + 1)) (wrap64 (x6 + 1))) else (morainelaw08_subset.l0 k x0 x1 x5 (wrap64 (x6 + 1)))) else (none)) else (none)) else (none)) else (none)) else (some (x5 == (x0.length : Int)))
end
def morainelaw08_subset.f (k : Nat) (l0 : List Int) (l1 : List Int) : Option (Bool) := morainelaw08_subset.l0 k l0 l1 0 0
theorem morainelaw08_subset.mono_l : ∀ k, (∀ y0 y1 y2 y3, LeO (morainelaw08_subset.l0 k y0 y1 y2 y3) (morainelaw08_subset.l0 (k + 1) y0 y1 y2 y3)) ∧ (∀ y0 y1 y2 y3 y4, LeO (morainelaw08_subset.j1 k y0 y1 y2 y3 y4) (morainelaw08_subset.j1 (k + 1) y0 y1 y2 y3 y4))
  | 0 => ⟨fun _ _ _ _ r h => by simp [morainelaw08_subset.l0] at h, fun _ _ _ _ _ r h => by simp [morainelaw08_subset.j1] at h⟩
  | k + 1 => by
    obtain ⟨ih0, ih1⟩ := morainelaw08_subset.mono_l k
    refine ⟨?_, ?_⟩
    · intro y0 y1 y2 y3
      unfold morainelaw08_subset.l0
      repeat' first
      | (with_reducible exact ih0 _ _ _ _)
      | (with_reducible exact ih1 _ _ _ _ _)
      | (with_reducible exact LeO.refl _)
      | (with_reducible exact LeO.none _)
      | (with_reducible refine LeO.ite ?_ ?_)
      | (with_reducible refine LeO.bind ?_ (fun _ => ?_))
      | exact ih0 _ _ _ _
      | exact ih1 _ _ _ _ _
      | exact LeO.none _
      | refine LeO.ite ?_ ?_
      | refine LeO.bind ?_ (fun _ => ?_)
    · intro y0 y1 y2 y3 y4
      unfold morainelaw08_subset.j1
      repeat' first
      | (with_reducible exact ih0 _ _ _ _)
      | (with_reducible exact ih1 _ _ _ _ _)
      | (with_reducible exact LeO.refl _)
      | (with_reducible exact LeO.none _)
      | (with_reducible refine LeO.ite ?_ ?_)
      | (with_reducible refine LeO.bind ?_ (fun _ => ?_))
      | exact ih0 _ _ _ _
      | exact ih1 _ _ _ _ _
      | exact LeO.none _
      | refine LeO.ite ?_ ?_
      | refine LeO.bind ?_ (fun _ => ?_)
theorem morainelaw08_subset.mono : ∀ a0 a1 k, LeO (morainelaw08_subset.f k a0 a1) (morainelaw08_subset.f (k + 1) a0 a1) := by
  intro a0 a1 k
  obtain ⟨ih0, ih1⟩ := morainelaw08_subset.mono_l k
  unfold morainelaw08_subset.f
  repeat' first
      | (with_reducible exact ih0 _ _ _ _)
      | (with_reducible exact ih1 _ _ _ _ _)
      | (with_reducible exact LeO.refl _)
      | (with_reducible exact LeO.none _)
      | (with_reducible refine LeO.ite ?_ ?_)
      | (with_reducible refine LeO.bind ?_ (fun _ => ?_))
      | exact ih0 _ _ _ _
      | exact ih1 _ _ _ _ _
      | exact LeO.none _
      | refine LeO.ite ?_ ?_
      | refine LeO.bind ?_ (fun _ => ?_)
set_option maxHeartbeats 8000000 in
set_option maxRecDepth 100000 in
theorem morainelaw08_subset.calls (k : Nat) (A0 : Option Addr) (c0 : Nat) (l0 : List Int) (A1 : Option Addr) (c1 : Nat) (l1 : List Int) (r : Bool) (w : World) (hr0 : Kd.C (Kd.int .i64) w A0 l0.length l0) (hc0 : l0.length ≤ c0) (hr1 : Kd.C (Kd.int .i64) w A1 l1.length l1) (hc1 : l1.length ≤ c1) (h : morainelaw08_subset.f k l0 l1 = some r) :
    Calls Try.prog 33 #[.slice A0 l0.length c0, .slice A1 l1.length c1] w fun e w' => e = .returned (.bool r) ∧ Drawn0 w w' := by
  have HR0 := Aside0.mk hr0
  have HC0 := Aside0.mk hc0
  clear hr0 hc0
  have HR1 := Aside0.mk hr1
  have HC1 := Aside0.mk hc1
  clear hr1 hc1
  have H : (morainelaw08_subset.l0 k l0 l1 0 0) = some r := h
  clear h
  have H' := Aside0.mk H
  clear H
  go_enter Try.func33, Try.ntmps33
  go_wp2
  repeat (go_quiet (fail); try go_wp2)
  go_loopg [5, 6] k (fun kq v5 v6 w' => ∃ (x5_1 : Int) (x6_1 : Int), v5 = .int .i64 x5_1 ∧ v6 = .int .i64 x6_1 ∧ Aside0 (morainelaw08_subset.l0 kq l0 l1 x5_1 x6_1 = some r) ∧ Aside0 (kq ≤ k) ∧ Drawn0 w w')
  case atStart => exact ⟨(0), (0), (by first | rfl | (simp; done) | (simp [*]; done)), (by first | rfl | (simp; done) | (simp [*]; done)), H', ⟨Nat.le_refl _⟩, by repeat (first | exact Drawn0.refl _ | apply Drawn0.step)⟩
  case round =>
    clear H'
    try clear c1
    try clear p2
    obtain ⟨x5_1, x6_1, rfl, rfl, HA, HK1, ⟨m1, rfl⟩⟩ := hrel
    cases gk with
    | zero => exact absurd HA.out (by simp [morainelaw08_subset.l0])
    | succ k1 =>
      have H := HA.out
      clear HA
      simp only [morainelaw08_subset.l0] at H
      have HC3 := Aside0.mk H
      clear H
      go_upto_region 3 with (fail)
      repeat (go_quiet (fail); go_upto_region 3 with (fail))
      go_cut [16] (fun v16 wc => ∃ (kq : Nat) (x16_2 : Bool), v16 = .bool x16_2 ∧ Aside0 (morainelaw08_subset.j1 kq l0 l1 x5_1 x6_1 x16_2 = some r) ∧ Aside0 (kq ≤ k1) ∧ Drawn0 w wc)
      case first =>
        have H := HC3.out
        clear HC3
        by_cases c4 : x6_1 < (l1.length : Int)
        · rw [if_pos c4] at H
          have c4b0 : decide (x6_1 < (l1.length : Int)) = true := decide_eq_true c4
          clear c4
          (first | rw [c4b0] | (simp only [i64_w, i32_w]; rw [c4b0]) | skip)
          have H' := Aside0.mk H
          clear H
          go_wp2
          repeat (go_quiet (fail); try go_wp2)
          go_meet
          case rel => exact ⟨_, (decide (x5_1 < (l0.length : Int))), (by first | rfl | (simp; done) | (simp [*]; done)), H', ⟨by have := HK1.out; first | omega | exact Nat.le_refl _⟩, by repeat (first | exact Drawn0.refl _ | apply Drawn0.step)⟩
        · rw [if_neg c4] at H
          have c4b0 : decide (x6_1 < (l1.length : Int)) = false := decide_eq_false c4
          clear c4
          (first | rw [c4b0] | (simp only [i64_w, i32_w]; rw [c4b0]) | skip)
          have H' := Aside0.mk H
          clear H
          go_wp2
          repeat (go_quiet (fail); try go_wp2)
          go_meet
          case rel => exact ⟨_, (false), (by first | rfl | (simp; done) | (simp [*]; done)), H', ⟨by have := HK1.out; first | omega | exact Nat.le_refl _⟩, by repeat (first | exact Drawn0.refl _ | apply Drawn0.step)⟩
      case rest =>
        clear HC3
        try clear c1
        try clear p2
        try clear c3
        try clear c4
        try clear c4b0
        try clear p2
        obtain ⟨kq, x16_2, rfl, HA, HJ2, ⟨mc2, rfl⟩⟩ := hcut
        cases kq with
        | zero => exact absurd HA.out (by simp [morainelaw08_subset.j1])
        | succ kj2 =>
          have H := HA.out
          clear HA
          simp only [morainelaw08_subset.j1] at H
          by_cases c5 : x16_2 = true
          · subst c5
            have H1 : (if 0 ≤ x5_1 then (if x5_1 < (l0.length : Int) then (if 0 ≤ x6_1 then (if x6_1 < (l1.length : Int) then (if (rd l0 x5_1) = (rd l1 x6_1) then (morainelaw08_subset.l0 kj2 l0 l1 (wrap64 (x5_1 + 1)) (wrap64 (x6_1 + 1))) else (morainelaw08_subset.l0 kj2 l0 l1 x5_1 (wrap64 (x6_1 + 1)))) else (none)) else (none)) else (none)) else (none)) = some r := by rw [if_pos rfl] at H; exact H
            clear H
            have H := H1
            clear H1
            by_cases c6 : 0 ≤ x5_1
            · rw [if_pos c6] at H
              have c6b0 : decide (0 ≤ x5_1) = true := decide_eq_true c6
              clear c6
              by_cases c7 : x5_1 < (l0.length : Int)
              · rw [if_pos c7] at H
                have c7b0 : decide (x5_1 < (l0.length : Int)) = true := decide_eq_true c7
                clear c7
                by_cases c8 : 0 ≤ x6_1
                · rw [if_pos c8] at H
                  have c8b0 : decide (0 ≤ x6_1) = true := decide_eq_true c8
                  clear c8
                  by_cases c9 : x6_1 < (l1.length : Int)
                  · rw [if_pos c9] at H
                    have c9b0 : decide (x6_1 < (l1.length : Int)) = true := decide_eq_true c9
                    clear c9
                    by_cases c10 : (rd l0 x5_1) = (rd l1 x6_1)
                    · rw [if_pos c10] at H
                      have c10b0 : ((rd l0 x5_1) == (rd l1 x6_1)) = true := beq_iff_eq.mpr c10
                      have c10b1 : ((rd l0 x5_1) != (rd l1 x6_1)) = false := bne_eq_false_iff_eq.mpr c10
                      clear c10
                      have H' := Aside0.mk H
                      clear H
                      have p120 : 0 ≤ (x5_1 : Int) := of_decide_eq_true (by first | (with_reducible assumption) | assumption)
                      have q120 : x5_1 < (l0.length : Int) := of_decide_eq_true (by first | (with_reducible assumption) | assumption)
                      obtain ⟨ad120, e120, hx120_0⟩ := Kd.at_int HR0.out x5_1 p120 q120
                      cases e120
                      replace p120 := eq_true p120
                      replace q120 := eq_true q120
                      have p121 : 0 ≤ (x6_1 : Int) := of_decide_eq_true (by first | (with_reducible assumption) | assumption)
                      have q121 : x6_1 < (l1.length : Int) := of_decide_eq_true (by first | (with_reducible assumption) | assumption)
                      obtain ⟨ad121, e121, hx121_0⟩ := Kd.at_int HR1.out x6_1 p121 q121
                      cases e121
                      replace p121 := eq_true p121
                      replace q121 := eq_true q121
                      go_wp2
                      repeat (go_quiet (fail); try go_wp2)
                      go_roundg kj2
                      case measure => have := HK1.out; have := HJ2.out; omega
                      case rel => exact ⟨(wrap64 (x5_1 + 1)), (wrap64 (x6_1 + 1)), (by first | rfl | (simp; done) | (simp [*]; done)), (by first | rfl | (simp; done) | (simp [*]; done)), H', ⟨by have := HK1.out; have := HJ2.out; omega⟩, by repeat (first | exact Drawn0.refl _ | apply Drawn0.step)⟩
                    · rw [if_neg c10] at H
                      have c10b0 : ((rd l0 x5_1) == (rd l1 x6_1)) = false := beq_eq_false_iff_ne.mpr c10
                      have c10b1 : ((rd l0 x5_1) != (rd l1 x6_1)) = true := bne_iff_ne.mpr c10
                      have H' := Aside0.mk H
                      clear H
                      have p120 : 0 ≤ (x5_1 : Int) := of_decide_eq_true (by first | (with_reducible assumption) | assumption)
                      have q120 : x5_1 < (l0.length : Int) := of_decide_eq_true (by first | (with_reducible assumption) | assumption)
                      obtain ⟨ad120, e120, hx120_0⟩ := Kd.at_int HR0.out x5_1 p120 q120
                      cases e120
                      replace p120 := eq_true p120
                      replace q120 := eq_true q120
                      have p121 : 0 ≤ (x6_1 : Int) := of_decide_eq_true (by first | (with_reducible assumption) | assumption)
                      have q121 : x6_1 < (l1.length : Int) := of_decide_eq_true (by first | (with_reducible assumption) | assumption)
                      obtain ⟨ad121, e121, hx121_0⟩ := Kd.at_int HR1.out x6_1 p121 q121
                      cases e121
                      replace p121 := eq_true p121
                      replace q121 := eq_true q121
                      go_wp2
                      repeat (go_quiet (fail); try go_wp2)
                      go_roundg kj2
                      case measure => have := HK1.out; have := HJ2.out; omega
                      case rel => exact ⟨(x5_1), (wrap64 (x6_1 + 1)), (by first | rfl | (simp; done) | (simp [*]; done)), (by first | rfl | (simp; done) | (simp [*]; done)), H', ⟨by have := HK1.out; have := HJ2.out; omega⟩, by repeat (first | exact Drawn0.refl _ | apply Drawn0.step)⟩
                  · rw [if_neg c9] at H
                    exact absurd H (by simp)
                · rw [if_neg c8] at H
                  exact absurd H (by simp)
              · rw [if_neg c7] at H
                exact absurd H (by simp)
            · rw [if_neg c6] at H
              exact absurd H (by simp)
          · replace c5 := Bool.eq_false_iff.mpr c5
            subst c5
            have H1 : (some (x5_1 == (l0.length : Int))) = some r := by rw [if_neg (show ¬ (false = true) by decide)] at H; exact H
            clear H
            have H := H1
            clear H1
            obtain rfl := Option.some.inj H
            go_wp2
            repeat (go_quiet (fail); try go_wp2)
            go_ret
            exact ⟨by first | rfl | (simp; done) | (simp [*]; done), by repeat (first | exact Drawn0.refl _ | apply Drawn0.step)⟩

end Go.Proofs.Ytehfcafmdnfamaa.G

/- Contracts typed by hand: a skiplist: the chapter's first example; lists of numbers told alike -/
namespace Go.Proofs.Ytehfcafmdnfamaa.G
open Go.RowKit Go.Proofs.YtehfcafmdnfamaaW.PrintWords Go.Proofs.YtehfcafmdnfamaaW.PrintLast Go.Proofs.YtehfcafmdnfamaaW.PrintMore
attribute [local go_sem] max2_int min2_int max_two min_two max_three min_three max_four min_four
set_option linter.unusedVariables false
set_option linter.unusedSimpArgs false

/-! a skiplist: the chapter's first example; lists of numbers told alike -/
theorem intsC_of {w : World} {b : Nat} {T : TypeId} {m : Nat × Nat} {cs : Array Value} (l : List Int) (h : w.heap[b]? = some (.cells cs T m)) (hl : l.length ≤ 1099511627776) (hc : cs.toList = l.map (fun z => Value.int .i64 z)) : Kd.C (Kd.int .i64) w (some ⟨b, 0, none⟩) l.length l := by
  refine ⟨rfl, by omega, fun _ => ⟨⟨b, 0, none⟩, rfl, fun j p hj => ⟨[.int .i64 p], rfl, rfl, fun i u hu => ?_⟩⟩⟩
  cases i with
  | zero =>
    simp only [List.getElem?_cons_zero, Option.some.injEq] at hu
    subst hu
    have e : cs[j]? = some (.int .i64 p) := by
      rw [← Array.getElem?_toList, hc, List.getElem?_map, hj]; rfl
    have : w.cell? ⟨b, j, none⟩ = some (.int .i64 p) := (cell_of_row w b j cs T m h).trans e
    show w.cell? ((⟨b, 0, none⟩ : Addr).add (j * 1 + 0)) = some (.int .i64 p)
    rw [add_at, Nat.zero_add, Nat.mul_one]
    exact this
  | succ i => simp at hu
theorem rd_at (l : List Int) {i : Nat} (h : i < l.length) : rd l (i : Int) = l[i] := by
  unfold rd
  simp [h]
theorem ints_same0 (l : List Int) (hl : l.length ≤ 1099511627776) : ∀ d i, i + d = l.length → morainelaw08_ints.l0 (d + 1) l l (i : Int) = some true
  | 0, i, h => by
    rw [morainelaw08_ints.l0, if_neg (by omega)]
  | d + 1, i, h => by
    have e : wrap64 ((i : Int) + 1) = ((i + 1 : Nat) : Int) := by unfold wrap64; omega
    rw [morainelaw08_ints.l0, if_pos (by omega), if_pos (by omega), if_pos (by omega), if_pos rfl, e]
    exact ints_same0 l hl d (i + 1) (by omega)
theorem ints_same (l : List Int) (hl : l.length ≤ 1099511627776) : morainelaw08_ints.f (l.length + 1) l l = some true := by
  unfold morainelaw08_ints.f
  rw [if_pos rfl]
  exact ints_same0 l hl l.length 0 (by omega)
theorem sub_cons {x y : Int} {a b : List Int} (h : List.Sublist (x :: a) (y :: b)) : (x = y → List.Sublist a b) ∧ (x ≠ y → List.Sublist (x :: a) b) := by
  constructor
  · rintro rfl
    exact List.cons_sublist_cons.1 h
  · intro hn
    rcases h with _ | h | h
    · assumption
    · exact absurd rfl hn
theorem subset_sub0 (a b : List Int) (ha : a.length ≤ 1099511627776) (hb : b.length ≤ 1099511627776) : ∀ d i j, j + d = b.length → i ≤ a.length → List.Sublist (a.drop i) (b.drop j) → morainelaw08_subset.l0 (2 * d + 2) a b (i : Int) (j : Int) = some true
  | 0, i, j, hj, hi, hs => by
    rw [List.drop_of_length_le (by omega : b.length ≤ j)] at hs
    have hn := List.eq_nil_of_sublist_nil hs
    have : i = a.length := by
      have := congrArg List.length hn
      rw [List.length_drop, List.length_nil] at this
      omega
    rw [morainelaw08_subset.l0, if_neg (by omega), morainelaw08_subset.j1, if_neg (by simp), this]
    simp
  | d + 1, i, j, hj, hi, hs => by
    have e : wrap64 ((i : Int) + 1) = ((i + 1 : Nat) : Int) := by unfold wrap64; omega
    have e2 : wrap64 ((j : Int) + 1) = ((j + 1 : Nat) : Int) := by unfold wrap64; omega
    rw [show 2 * (d + 1) + 2 = (2 * d + 2) + 1 + 1 from rfl, morainelaw08_subset.l0, if_pos (by omega), morainelaw08_subset.j1]
    by_cases h : i < a.length
    · rw [if_pos (by simp; omega), if_pos (by omega), if_pos (by omega), if_pos (by omega), if_pos (by omega), rd_at a h, rd_at b (by omega), e, e2]
      rw [List.drop_eq_getElem_cons h, List.drop_eq_getElem_cons (show j < b.length by omega)] at hs
      obtain ⟨s1, s2⟩ := sub_cons hs
      by_cases hx : a[i] = b[j]
      · rw [if_pos hx]
        exact subset_sub0 a b ha hb d (i + 1) (j + 1) (by omega) (by omega) (s1 hx)
      · rw [if_neg hx]
        refine subset_sub0 a b ha hb d i (j + 1) (by omega) (by omega) ?_
        rw [List.drop_eq_getElem_cons h]
        exact s2 hx
    · rw [if_neg (by simp; omega)]
      have : i = a.length := by omega
      rw [this]; simp
theorem subset_sub (a b : List Int) (ha : a.length ≤ 1099511627776) (hb : b.length ≤ 1099511627776) (h : List.Sublist a b) : morainelaw08_subset.f (2 * b.length + 2) a b = some true := subset_sub0 a b ha hb b.length 0 0 (by omega) (by omega) h
/-- two rows of the same numbers are told alike -/
theorem ints_rows {w : World} {A B : Option Addr} {c d : Nat} {n m : Nat} {l : List Int} (h1 : Kd.C (Kd.int .i64) w A l.length l) (h2 : Kd.C (Kd.int .i64) w B l.length l) (hc : l.length ≤ c) (hd : l.length ≤ d) (hl : l.length ≤ 1099511627776) (hn : n = l.length) (hm : m = l.length) :
    Calls Try.prog 20 #[.slice A n c, .slice B m d] w fun e w' => e = .returned (.bool true) ∧ Below w.heap.size w w' := by
  subst hn hm
  exact (morainelaw08_ints.calls (l.length + 1) A c l B d l true w h1 hc h2 hd (ints_same l hl)).mono fun e w' ⟨h, hd⟩ => ⟨h, hd.below⟩
theorem wi (g base most : Nat) (S S2 : SL Int) (b : UInt8) (h0 : Nat) (h : insC S most (kS b 1) (h0 : Int) = 0 ∧ insS S most (kS b 1) 0 (h0 : Int) = S2) (w : World) (hs : SkAt w g base S most) :
    Calls Try.prog 13 #[.pointer (some ⟨g, 0, none⟩), .agg #[.string ⟨#[b]⟩, .int .u64 1, .int .i64 1], .int .i64 0, .int .i64 (h0 : Int)] w fun e w' => e = .returned (.int .i64 0) ∧ SkAt w' g base S2 most ∧ Below base w w' := by
  have := sk_insert g base most S (kS b 1) 0 (h0 : Int) w hs
  rw [h.1, h.2] at this
  exact this.mono fun e w' ⟨a, b, c, _⟩ => ⟨a, b, c⟩
theorem wkey (b : UInt8) (n : Int) (w : World) : Calls Try.prog 46 #[.string ⟨#[b]⟩, .int .u64 n] w fun e w' => e = .returned (.agg #[.string ⟨#[b]⟩, .int .u64 n, .int .i64 1]) ∧ Below w.heap.size w w' := morainelaw08_key.calls _ _ _ _ _ w rfl
set_option maxHeartbeats 16000000 in
set_option maxRecDepth 100000 in
theorem works_calls (w : World) : Calls Try.prog 16 #[] w fun e w' => e = .returned (.bool true) ∧ Below w.heap.size w w' := by
  have HNW := Aside0.mk (sk_new 3 w (by decide) (by decide))
  have HI1 := Aside0.mk (fun g => wi g w.heap.size 3 SL.nil W1 98 2 ins1)
  have HI2 := Aside0.mk (fun g => wi g w.heap.size 3 W1 W2 97 1 ins2)
  have HI3 := Aside0.mk (fun g => wi g w.heap.size 3 W2 W3 99 3 ins3)
  rw [show ((3 : Nat) : Int) = 3 from rfl] at HNW HI3
  rw [show ((2 : Nat) : Int) = 2 from rfl] at HI1
  rw [show ((1 : Nat) : Int) = 1 from rfl] at HI2
  have HL0 := Aside0.mk (fun g => sk_links g w.heap.size 3 W3 0)
  have HL1 := Aside0.mk (fun g => sk_links g w.heap.size 3 W3 1)
  have HSE := Aside0.mk (fun g => sk_seek g w.heap.size 3 W3 (kS 98 2))
  have HTR := Aside0.mk (fun g => sk_trailL g w.heap.size 3 W3 (kS 99 1))
  rw [w3_lvl.1] at HL0
  rw [w3_lvl.2] at HL1
  rw [w3_seek] at HSE
  rw [w3_height, w3_trt] at HTR
  simp only [kS] at HSE HTR
  rw [show ((1 : Nat) : Int) = 1 from rfl] at HSE
  go_enter Try.func16, Try.ntmps16
  go_wp2_with fail
  (with_reducible refine HNW.out.mono ?_)
  rintro e w1 ⟨g, rfl, hsk, hb⟩
  have HS := Aside0.mk hsk
  have HB := Aside0.mk hb
  clear hsk hb
  go_wp2_with fail
  (with_reducible refine (wkey 98 1 _).mono ?_)
  rintro e wa ⟨rfl, hb⟩
  have HS := Aside0.mk (HS.out.below hb)
  have HB := Aside0.mk (below_step HB.out hb)
  clear hb
  go_wp2_with fail
  (with_reducible refine (HI1.out _ _ HS.out).mono ?_)
  rintro e wb ⟨rfl, hs, hb⟩
  have HS := Aside0.mk hs
  have HB := Aside0.mk (HB.out.trans hb)
  clear hs hb
  go_wp2_with fail
  (with_reducible refine (wkey 97 1 _).mono ?_)
  rintro e wa ⟨rfl, hb⟩
  have HS := Aside0.mk (HS.out.below hb)
  have HB := Aside0.mk (below_step HB.out hb)
  clear hb
  go_wp2_with fail
  (with_reducible refine (HI2.out _ _ HS.out).mono ?_)
  rintro e wb ⟨rfl, hs, hb⟩
  have HS := Aside0.mk hs
  have HB := Aside0.mk (HB.out.trans hb)
  clear hs hb
  go_wp2_with fail
  (with_reducible refine (wkey 99 1 _).mono ?_)
  rintro e wa ⟨rfl, hb⟩
  have HS := Aside0.mk (HS.out.below hb)
  have HB := Aside0.mk (below_step HB.out hb)
  clear hb
  go_wp2_with fail
  (with_reducible refine (HI3.out _ _ HS.out).mono ?_)
  rintro e wb ⟨rfl, hs, hb⟩
  have HS := Aside0.mk hs
  have HB := Aside0.mk (HB.out.trans hb)
  clear hs hb
  go_wp2_with fail
  (with_reducible refine (HL0.out _ _ HS.out).mono ?_)
  rintro e wa ⟨v, rfl, hr, hb⟩
  obtain ⟨A0, c0, rfl, hc0, hC0⟩ := Kd.R_reads hr
  have HC0 := Aside0.mk hC0
  have HCL := Aside0.mk hc0
  have HS := Aside0.mk (HS.out.below hb)
  have HB := Aside0.mk (below_step HB.out hb)
  rw [show ([2,1,3] : List Int).length = 3 from rfl]
  clear hb hr hC0 hc0
  go_wp2_with fail
  have hx := World.alloc_heap_new wa (.cells #[.int .i64 2, .int .i64 1, .int .i64 3] 3)
  (with_reducible refine (ints_rows (l := [2,1,3]) (d := 3) (n := 3) (m := 3) (Kd.C_below HC0.out (below_alloc (Below.refl _ _) _)) (intsC_of [2,1,3] hx (by decide) rfl) HCL.out (by decide) (by decide) rfl rfl).mono ?_)
  rintro e wb ⟨rfl, hb⟩
  have HS := Aside0.mk ((HS.out.below (below_alloc (Below.refl _ _) _)).below hb)
  have HB := Aside0.mk (below_step (below_alloc HB.out (.cells #[.int .i64 2, .int .i64 1, .int .i64 3] 3)) hb)
  clear hb hx HC0 HCL
  go_wp2_with fail
  (with_reducible refine (HL1.out _ _ HS.out).mono ?_)
  rintro e wa ⟨v, rfl, hr, hb⟩
  obtain ⟨A0, c0, rfl, hc0, hC0⟩ := Kd.R_reads hr
  have HC0 := Aside0.mk hC0
  have HCL := Aside0.mk hc0
  have HS := Aside0.mk (HS.out.below hb)
  have HB := Aside0.mk (below_step HB.out hb)
  rw [show ([1,3] : List Int).length = 2 from rfl]
  clear hb hr hC0 hc0
  go_wp2_with fail
  have hx := World.alloc_heap_new wa (.cells #[.int .i64 1, .int .i64 3] 3)
  (with_reducible refine (ints_rows (l := [1,3]) (d := 2) (n := 2) (m := 2) (Kd.C_below HC0.out (below_alloc (Below.refl _ _) _)) (intsC_of [1,3] hx (by decide) rfl) HCL.out (by decide) (by decide) rfl rfl).mono ?_)
  rintro e wb ⟨rfl, hb⟩
  have HS := Aside0.mk ((HS.out.below (below_alloc (Below.refl _ _) _)).below hb)
  have HB := Aside0.mk (below_step (below_alloc HB.out (.cells #[.int .i64 1, .int .i64 3] 3)) hb)
  clear hb hx HC0 HCL
  go_wp2_with fail
  (with_reducible refine (wkey 98 2 _).mono ?_)
  rintro e wa ⟨rfl, hb⟩
  have HS := Aside0.mk (HS.out.below hb)
  have HB := Aside0.mk (below_step HB.out hb)
  clear hb
  go_wp2_with fail
  (with_reducible refine (HSE.out _ _ HS.out).mono ?_)
  rintro e wa ⟨rfl, hb⟩
  have HS := Aside0.mk (HS.out.below hb)
  have HB := Aside0.mk (below_step HB.out hb)
  clear hb
  go_wp2_with fail
  (with_reducible refine (wkey 99 1 _).mono ?_)
  rintro e wa ⟨rfl, hb⟩
  have HS := Aside0.mk (HS.out.below hb)
  have HB := Aside0.mk (below_step HB.out hb)
  clear hb
  go_wp2_with fail
  (with_reducible refine (HTR.out _ _ HS.out).mono ?_)
  rintro e wa ⟨v, rfl, hr, hb⟩
  obtain ⟨A0, c0, rfl, hc0, hC0⟩ := Kd.R_reads hr
  have HC0 := Aside0.mk hC0
  have HCL := Aside0.mk hc0
  have HS := Aside0.mk (HS.out.below hb)
  have HB := Aside0.mk (below_step HB.out hb)
  rw [show ([0,1,1] : List Int).length = 3 from rfl]
  clear hb hr hC0 hc0
  go_wp2_with fail
  have hx := World.alloc_heap_new wa (.cells #[.int .i64 0, .int .i64 1, .int .i64 1] 3)
  (with_reducible refine (ints_rows (l := [0,1,1]) (d := 3) (n := 3) (m := 3) (Kd.C_below HC0.out (below_alloc (Below.refl _ _) _)) (intsC_of [0,1,1] hx (by decide) rfl) HCL.out (by decide) (by decide) rfl rfl).mono ?_)
  rintro e wb ⟨rfl, hb⟩
  have HS := Aside0.mk ((HS.out.below (below_alloc (Below.refl _ _) _)).below hb)
  have HB := Aside0.mk (below_step (below_alloc HB.out (.cells #[.int .i64 0, .int .i64 1, .int .i64 1] 3)) hb)
  clear hb hx HC0 HCL
  go_wp2
  go_ret
  exact ⟨rfl, HB.out⟩

end Go.Proofs.Ytehfcafmdnfamaa.G
