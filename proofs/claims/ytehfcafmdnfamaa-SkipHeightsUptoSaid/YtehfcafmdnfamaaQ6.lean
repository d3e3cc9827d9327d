/- Contracts of functions and plain laws, several texts of the session put together by its program. -/
import Derived.Test.YtehfcafmdnfamaaProg
import Derived.Below
import Derived.Deep.Draws
import Derived.Deep.AppendLies
import Derived.Maps.AppendAt
import Derived.OwnWalk
import Derived.Laws.BytesArg
import Derived.Laws.MakeOwn
import Derived.Laws.OwnMore
import Derived.Deep.OwnRows
import Derived.Tactics
import Derived.Lib.ConvBytes
import Derived.Laws.Slices
import Derived.WalkKit
import Derived.KernelRfl
import Derived.RowKit3
import Derived.Deep.LoopGhost
import Derived.Deep.QuietTactic
import Derived.BigQuiet
import Derived.WideLaws
import Derived.Deep.DeepCutAuto
import Derived.Deep.CutBlock
import Derived.Deep.RegionHeld3
import Derived.Laws.Rows
import Derived.Lib.AppendStr
import Derived.ArgAppend
import Derived.Laws.IdiomCopy
import Derived.OrdersHeld
import Derived.Laws.BitsLemmas
import Derived.RowKit
import Derived.Test.YtehfcafmdnfamaaWWords
import Derived.Test.YtehfcafmdnfamaaWLast
import Derived.Test.YtehfcafmdnfamaaWTab
import Derived.Test.YtehfcafmdnfamaaWFour
import Derived.Test.YtehfcafmdnfamaaWQPut
import Derived.Test.YtehfcafmdnfamaaWApart
import Derived.Test.YtehfcafmdnfamaaWArr
import Derived.Test.YtehfcafmdnfamaaWZeros
import Derived.Test.YtehfcafmdnfamaaWFoot
import Derived.Test.YtehfcafmdnfamaaWKept
import Derived.Test.YtehfcafmdnfamaaWShare
import Derived.Test.YtehfcafmdnfamaaWN
import Derived.Test.YtehfcafmdnfamaaWFootNe
import Derived.Test.YtehfcafmdnfamaaWAt
import Derived.Test.YtehfcafmdnfamaaWEqStruct
import Derived.Test.YtehfcafmdnfamaaWRepsOne
import Derived.Test.YtehfcafmdnfamaaWInv
import Derived.Test.YtehfcafmdnfamaaWInvWords
import Derived.Test.YtehfcafmdnfamaaWGuard
import Derived.Test.YtehfcafmdnfamaaWNEv
import Derived.Test.YtehfcafmdnfamaaWMore
import Derived.Test.YtehfcafmdnfamaaQ5
import Derived.Test.YtehfcafmdnfamaaQ3
import Derived.IntWalk

/- Contracts typed by hand: the law SkipHeights -/
namespace Go.Proofs.Ytehfcafmdnfamaa.G
open Go.RowKit Go.Proofs.YtehfcafmdnfamaaW.PrintWords Go.Proofs.YtehfcafmdnfamaaW.PrintLast Go.Proofs.YtehfcafmdnfamaaW.PrintMore
attribute [local go_sem] max2_int min2_int max_two min_two max_three min_three max_four min_four
set_option linter.unusedVariables false
set_option linter.unusedSimpArgs false

/-! the law SkipHeights -/
theorem seek_key {V : Type} {S : SL V} (hS : S.Fine) {z : Nat} (hz : z ∈ S.order) : S.seek (S.key z) = z := by
  obtain ⟨p, q, hp⟩ := List.append_of_mem hz
  unfold SL.seek SL.rest
  have hr := hS.rise
  rw [hp, List.pairwise_append] at hr
  rw [hp, List.filter_append]
  have h1 : p.filter (fun u => !kl (S.key u) (S.key z)) = [] := List.filter_eq_nil_iff.2 fun u hu => by
    rw [hr.2.2 u hu z (List.mem_cons_self ..)]; simp
  rw [h1, List.nil_append, List.filter_cons_of_pos (by rw [kl_irr]; rfl)]
  rfl
theorem sk_get_at (g base most : Nat) (S : SL Int) (z : Nat) (w : World) (h : SkAt w g base S most) (hz : z ∈ S.order) (x : IK × Int × Nat) (hx : S.nodes[z - 1]? = some x) :
    Calls Try.prog 32 #[.pointer (some ⟨g, 0, none⟩), .agg #[.string (S.key z).1, .int .u64 (S.key z).2.1, .int .i64 (S.key z).2.2]] w fun e w' => e = .returned (.tuple #[.int .i64 x.2.1, .bool true]) ∧ Below w.heap.size w w' := by
  have e := seek_key h.fine.1 hz
  have hm := h.fine.1.mem z hz
  exact sk_get g base most S (S.key z) x w h (by rw [e]; exact hm.1) (by rw [e]; exact hx) (by unfold SL.key; rw [hx])
set_option maxHeartbeats 32000000 in
set_option maxRecDepth 100000 in
theorem heights_calls (A : Option Addr) (c : Nat) (l : List Put08) (more : Int) (k : IK) (w : World) (hr : Kd.C PutK w A l.length l) (hc : l.length ≤ c) (hlen : l.length ≤ 1048576) :
    Calls Try.prog 6 #[.slice A l.length c, .int .i64 more, .agg #[.string k.1, .int .u64 k.2.1, .int .i64 k.2.2]] w fun e w' => e = .returned (.bool true) ∧ Below w.heap.size w w' := by
  have HR0 := Aside0.mk hr
  have HC0 := Aside0.mk hc
  have HLE := Aside0.mk hlen
  obtain ⟨W1, hW1⟩ : ∃ W1, w.alloc (.cells #[.string k.1, .int .u64 k.2.1, .int .i64 k.2.2] 37) = W1 := ⟨_, rfl⟩
  have HB := Aside0.mk (show Below w.heap.size w W1 by rw [← hW1]; exact below_alloc (Below.refl _ _) _)
  have HX := Aside0.mk (show W1.heap[w.heap.size]? = some (.cells #[.string k.1, .int .u64 k.2.1, .int .i64 k.2.2] 37 (0, 0)) by rw [← hW1]; exact blk_new w _)
  have HE1 := Aside0.mk hW1
  obtain ⟨am, ham⟩ : ∃ am, Int.tmod (wrap64 (Int.tmod more 1000 + 1000)) 1000 = am := ⟨_, rfl⟩
  have HAM := Aside0.mk (show morainelaw08_among.f more 1000 = some am by rw [← ham]; exact if_neg (by decide))
  clear hr hc hlen hW1 ham
  go_enter Try.func6, Try.ntmps6
  go_wp2_with fail
  rw [HE1.out]
  (with_reducible refine (works_calls _).mono ?_)
  rintro e w2 ⟨rfl, hb⟩
  have HB := Aside0.mk (below_step HB.out hb)
  have HX := Aside0.mk (blk_below HX.out hb)
  clear hb HE1
  go_wp2_with fail
  (with_reducible refine (morainelaw08_among.calls more 1000 am _ HAM.out).mono ?_)
  rintro e w2 ⟨rfl, hd⟩
  have HB := Aside0.mk (below_step HB.out hd.below)
  have HX := Aside0.mk (blk_below HX.out hd.below)
  clear hd
  have hmd : Made (madeL 0 l).1 (madeL 0 l).2 := madeS_made (hgt 0) (putsOf l) 0 SL.nil [] made_nil
  have hal : Alike (madeL 0 l).1 (madeL am l).1 ∧ (madeL 0 l).2 = (madeL am l).2 := madeS_alike (hgt_range 0) (hgt_range am) (putsOf l) 0 SL.nil SL.nil [] (Alike.refl _)
  have HMA := Aside0.mk (fun W h => made_calls A c l 0 W h HC0.out HLE.out)
  have HMB := Aside0.mk (fun W h => made_calls A c l am W h HC0.out HLE.out)
  rw [← hal.2] at HMB
  have hal1 := hal.1
  clear hal
  generalize (madeL 0 l).1 = S at hmd hal1 HMA
  generalize (madeL am l).1 = T at hal1 HMB
  generalize (madeL 0 l).2 = t at hmd HMA HMB
  have HAL := Aside0.mk hal1
  have HMD := Aside0.mk hmd
  have hlT := hmd.len
  have hol : S.order.length = t.length := by rw [hmd.fine.len, hlT]
  obtain ⟨n, hn⟩ : ∃ n, t.length = n := ⟨_, rfl⟩
  rw [hn] at hol
  have HO := Aside0.mk hol
  have HN := Aside0.mk hn
  clear hal1 hmd hlT hol hn
  go_wp2_with fail
  (with_reducible refine (HMA.out _ (Kd.C_below HR0.out HB.out)).mono ?_)
  rintro e w3 ⟨g, tk, rfl, hsk, hrt, hb⟩
  obtain ⟨base, hbase⟩ : ∃ base, w2.heap.size = base := ⟨_, rfl⟩
  rw [hbase] at hsk hrt
  have HSA := Aside0.mk hsk
  have HB := Aside0.mk (below_step HB.out hb)
  have HX := Aside0.mk (blk_below HX.out hb)
  have hnb : n ≤ 1048576 := by rw [← HO.out, hsk.fine.1.len]; exact hsk.fine.2.1
  obtain ⟨At, ct, rfl, hct, hCt⟩ := Kd.R_reads hrt
  rw [HN.out]
  have HCT := Aside0.mk hCt
  have HLT := Aside0.mk hct
  clear hsk hrt hb hbase hct hCt HMA
  go_wp2_with fail
  (with_reducible refine (HMB.out _ (Kd.C_below HR0.out HB.out)).mono ?_)
  rintro e w4 ⟨g2, tk2, rfl, hsk, hrt, hb⟩
  obtain ⟨base2, hbase⟩ : ∃ base2, w3.heap.size = base2 := ⟨_, rfl⟩
  rw [hbase] at hsk hrt
  have HSB := Aside0.mk hsk
  have HSA := Aside0.mk (HSA.out.below hb)
  have HB := Aside0.mk (below_step HB.out hb)
  have HX := Aside0.mk (blk_below HX.out hb)
  have HCT := Aside0.mk (Kd.C_below HCT.out hb)
  obtain ⟨Au, cu, rfl, hcu, hCu⟩ := Kd.R_reads hrt
  rw [HN.out]
  have HCU := Aside0.mk hCu
  have HLU := Aside0.mk hcu
  clear hsk hrt hb hbase hcu hCu HMB
  go_wp2_with fail
  (with_reducible refine (ints_rows (l := t) HCT.out HCU.out HLT.out HLU.out (by rw [HN.out]; omega) HN.out.symm HN.out.symm).mono ?_)
  rintro e w5 ⟨rfl, hb⟩
  have HSA := Aside0.mk (HSA.out.below hb)
  have HSB := Aside0.mk (HSB.out.below hb)
  have HB := Aside0.mk (below_step HB.out hb)
  have HX := Aside0.mk (blk_below HX.out hb)
  have HCT := Aside0.mk (Kd.C_below HCT.out hb)
  clear hb HCU HLU
  go_wp2_with fail
  (with_reducible refine (gone_calls g base 1048576 S _ HSA.out).mono ?_)
  rintro e w6 ⟨v1, v2, rfl, hr1, hr2, hb⟩
  have HSA := Aside0.mk (HSA.out.below hb)
  have HSB := Aside0.mk (HSB.out.below hb)
  have HB := Aside0.mk (below_step HB.out hb)
  have HX := Aside0.mk (blk_below HX.out hb)
  have HCT := Aside0.mk (Kd.C_below HCT.out hb)
  obtain ⟨A1, c1, rfl, hc1, hC1⟩ := Kd.R_reads hr1
  obtain ⟨A2, c2, rfl, hc2, hC2⟩ := Kd.R_reads hr2
  have hl1 : (ordI S).length = n := by unfold ordI; rw [List.length_map, HO.out]
  have hl2 : (S.order.map fun z => s37 (S.key z)).length = n := by rw [List.length_map, HO.out]
  have HC1 := Aside0.mk hC1
  have HC2 := Aside0.mk hC2
  have HL1 := Aside0.mk hc1
  have HLE1 := Aside0.mk hl1
  have HLE2 := Aside0.mk hl2
  rw [hl1, hl2]
  clear hr1 hr2 hb hc1 hC1 hc2 hC2 hl1 hl2
  go_wp2_with fail
  (with_reducible refine (gone_calls g2 base2 1048576 T _ HSB.out).mono ?_)
  rintro e w7 ⟨v3, v4, rfl, hr1, hr2, hb⟩
  have HSA := Aside0.mk (HSA.out.below hb)
  have HSB := Aside0.mk (HSB.out.below hb)
  have HB := Aside0.mk (below_step HB.out hb)
  have HX := Aside0.mk (blk_below HX.out hb)
  have HCT := Aside0.mk (Kd.C_below HCT.out hb)
  have HC1 := Aside0.mk (Kd.C_below HC1.out hb)
  have HC2 := Aside0.mk (Kd.C_below HC2.out hb)
  rw [show ordI T = ordI S by unfold ordI; rw [HAL.out.order]] at hr1
  obtain ⟨A3, c3, rfl, hc3, hC3⟩ := Kd.R_reads hr1
  obtain ⟨A4, c4, rfl, hc4, hC4⟩ := Kd.R_reads hr2
  have HC3 := Aside0.mk hC3
  have HL3 := Aside0.mk hc3
  rw [HLE1.out]
  clear hr1 hr2 hb hc3 hC3 hc4 hC4
  have HSE := Aside0.mk (fun W (h : SkAt W g base S 1048576) => sk_seek g base 1048576 S k W h)
  have HBE := Aside0.mk (fun W (h : SkAt W g base S 1048576) => sk_before g base 1048576 S k W h)
  have HSE2 := Aside0.mk (fun W (h : SkAt W g2 base2 T 1048576) => sk_seek g2 base2 1048576 T k W h)
  have HBE2 := Aside0.mk (fun W (h : SkAt W g2 base2 T 1048576) => sk_before g2 base2 1048576 T k W h)
  rw [← HAL.out.seek] at HSE2
  rw [← HAL.out.before] at HBE2
  obtain ⟨sk, hs⟩ : ∃ s, S.seek k = s := ⟨_, rfl⟩
  obtain ⟨bk, hbk⟩ : ∃ s, S.before k = s := ⟨_, rfl⟩
  rw [hs] at HSE HSE2
  rw [hbk] at HBE HBE2
  have x0 := blk_cell HX.out 0
  have x1 := blk_cell HX.out 1
  have x2 := blk_cell HX.out 2
  have HRI := Aside0.mk (fun W (hb : Below w7.heap.size w7 W) => ints_rows (w := W) (l := ordI S) (n := n) (m := n) (Kd.C_below HC1.out hb) (Kd.C_below HC3.out hb) HL1.out HL3.out (by rw [HLE1.out]; omega) HLE1.out.symm HLE1.out.symm)
  clear hs hbk
  go_wp2_with fail
  refine start_ (n := 29) (S := fun w' => w'.cell? ⟨w.heap.size, 0, none⟩ = some (.string k.1) ∧ w'.cell? ⟨w.heap.size, 1, none⟩ = some (.int .u64 k.2.1) ∧ w'.cell? ⟨w.heap.size, 2, none⟩ = some (.int .i64 k.2.2)) (ds := []) #[false, false, false, false, false, false, false, false, false, false, false, false, false, false, false, false, false, false, false, false, false, false, false, false, false, false, false, false, false] (by kernel_rfl) rfl rfl ⟨x0, x1, x2⟩ (fun hHeld => ?_)
  refine pure_ (i := 0) (N := some 57) (v := ?_) (a' := ?_) #[true, false, false, false, false, false, false, false, false, false, false, false, false, false, false, false, false, false, false, false, false, false, false, false, false, false, false, false, false] rfl rfl (by kernel_rfl) (fun _ _ _ h => h) (Or.inl ⟨by rfl, ?_⟩) ?_ ?_
  rotate_left
  · intro w'
    go_simp
    with_reducible rfl
  rotate_left
  · simp only [Act.put, List.setIfInBounds_toArray, List.set_cons_zero, List.set_cons_succ, i64_w, i32_w]
    rfl
  refine pure_ (i := 1) (N := some 58) (v := ?_) (a' := ?_) #[true, true, false, false, false, false, false, false, false, false, false, false, false, false, false, false, false, false, false, false, false, false, false, false, false, false, false, false, false] rfl rfl (by kernel_rfl) (fun _ _ _ h => h) (Or.inl ⟨by rfl, ?_⟩) ?_ ?_
  rotate_left
  · intro w'
    go_simp
    with_reducible rfl
  rotate_left
  · simp only [Act.put, List.setIfInBounds_toArray, List.set_cons_zero, List.set_cons_succ, i64_w, i32_w]
    rfl
  refine one_ (i := 2) (N := some 59) #[true, true, true, false, false, false, false, false, false, false, false, false, false, false, false, false, false, false, false, false, false, false, false, false, false, false, false, false, false] rfl rfl (by kernel_rfl) (by decide) (fun K hK => ?_)
  refine goes_ Try.func20 (by kernel_rfl) rfl #[.slice A1 n c1, .slice A3 n c3] (by rfl) rfl rfl (by simp only [List.map_toArray, List.map_cons, List.map_nil]; rfl) ?_
  with_reducible refine (HRI.out _ (below_drew1 (Below.refl _ _))).mono ?_
  rintro e wa ⟨rfl, hb⟩
  refine ⟨_, rfl, ?_⟩
  have HDa := Aside0.mk (show Below w7.heap.size w7 wa from below_step (below_drew1 (Below.refl _ _)) hb)
  clear hb
  refine hK.out _ _ ⟨pw_cell_below HDa.out x0, pw_cell_below HDa.out x1, pw_cell_below HDa.out x2⟩ (fun hHeld => ?_)
  clear hK K
  refine norm_ (a' := ?_) ?_ ?_
  rotate_left
  · show Act.put _ (some 59) _ = _
    simp only [Act.put, List.setIfInBounds_toArray, List.set_cons_zero, List.set_cons_succ, i64_w, i32_w]
    rfl
  refine pure_ (i := 3) (N := some 60) (v := ?_) (a' := ?_) #[true, true, true, true, false, false, false, false, false, false, false, false, false, false, false, false, false, false, false, false, false, false, false, false, false, false, false, false, false] rfl rfl (by kernel_rfl) (fun _ _ _ h => h) (Or.inl ⟨by rfl, ?_⟩) ?_ ?_
  rotate_left
  · intro w'
    go_simp
    with_reducible rfl
  rotate_left
  · simp only [Act.put, List.setIfInBounds_toArray, List.set_cons_zero, List.set_cons_succ, i64_w, i32_w]
    rfl
  refine pure_ (i := 4) (N := some 61) (v := ?_) (a' := ?_) #[true, true, true, true, true, false, false, false, false, false, false, false, false, false, false, false, false, false, false, false, false, false, false, false, false, false, false, false, false] rfl rfl (by kernel_rfl) (fun _ _ _ h => h) (Or.inl ⟨by rfl, ?_⟩) ?_ ?_
  rotate_left
  · intro w'
    go_simp
    with_reducible rfl
  rotate_left
  · simp only [Act.put, List.setIfInBounds_toArray, List.set_cons_zero, List.set_cons_succ, i64_w, i32_w]
    rfl
  refine pure_ (i := 5) (N := some 62) (v := ?_) (a' := ?_) #[true, true, true, true, true, true, false, false, false, false, false, false, false, false, false, false, false, false, false, false, false, false, false, false, false, false, false, false, false] rfl rfl (by kernel_rfl) (fun _ _ _ h => h) (Or.inl ⟨by rfl, ?_⟩) ?_ ?_
  rotate_left
  · intro w'
    go_simp
    with_reducible rfl
  rotate_left
  · simp only [Act.put, List.setIfInBounds_toArray, List.set_cons_zero, List.set_cons_succ, i64_w, i32_w]
    rfl
  refine pure_ (i := 8) (N := some 65) (v := ?_) (a' := ?_) #[true, true, true, true, true, true, false, false, true, false, false, false, false, false, false, false, false, false, false, false, false, false, false, false, false, false, false, false, false] rfl rfl (by kernel_rfl) (fun _ _ _ h => h) (Or.inl ⟨by rfl, ?_⟩) ?_ ?_
  rotate_left
  · intro w'
    go_simp
    with_reducible rfl
  rotate_left
  · simp only [Act.put, List.setIfInBounds_toArray, List.set_cons_zero, List.set_cons_succ, i64_w, i32_w]
    rfl
  refine take_ (i := 6) (N := some 63) (v := ?_) (a' := ?_) #[true, true, true, true, true, true, true, false, true, false, false, false, false, false, false, false, false, false, false, false, false, false, false, false, false, false, false, false, false] rfl rfl (by kernel_rfl) (fun _ _ _ h => h) (Or.inl ⟨by rfl, ?_⟩) hHeld ?_ ?_
  rotate_left
  · rintro w' ⟨s0, s1, s2⟩
    go_simp
    with_reducible rfl
  rotate_left
  · simp only [Act.put, List.setIfInBounds_toArray, List.set_cons_zero, List.set_cons_succ, i64_w, i32_w]
    rfl
  refine take_ (i := 9) (N := some 66) (v := ?_) (a' := ?_) #[true, true, true, true, true, true, true, false, true, true, false, false, false, false, false, false, false, false, false, false, false, false, false, false, false, false, false, false, false] rfl rfl (by kernel_rfl) (fun _ _ _ h => h) (Or.inl ⟨by rfl, ?_⟩) hHeld ?_ ?_
  rotate_left
  · rintro w' ⟨s0, s1, s2⟩
    go_simp
    with_reducible rfl
  rotate_left
  · simp only [Act.put, List.setIfInBounds_toArray, List.set_cons_zero, List.set_cons_succ, i64_w, i32_w]
    rfl
  refine one_ (i := 7) (N := some 64) #[true, true, true, true, true, true, true, true, true, true, false, false, false, false, false, false, false, false, false, false, false, false, false, false, false, false, false, false, false] rfl rfl (by kernel_rfl) (by decide) (fun K hK => ?_)
  refine goes_ Try.func26 (by kernel_rfl) rfl #[.pointer (some ⟨g, 0, none⟩), .agg #[.string k.1, .int .u64 k.2.1, .int .i64 k.2.2]] (by rfl) rfl rfl (by simp only [List.map_toArray, List.map_cons, List.map_nil]; rfl) ?_
  with_reducible refine (HSE.out _ (HSA.out.below HDa.out)).mono ?_
  rintro e wb ⟨rfl, hb⟩
  refine ⟨_, rfl, ?_⟩
  have HDb := Aside0.mk (show Below w7.heap.size w7 wb from below_step HDa.out hb)
  clear hb
  refine hK.out _ _ ⟨pw_cell_below HDb.out x0, pw_cell_below HDb.out x1, pw_cell_below HDb.out x2⟩ (fun hHeld => ?_)
  clear hK K
  refine norm_ (a' := ?_) ?_ ?_
  rotate_left
  · show Act.put _ (some 64) _ = _
    simp only [Act.put, List.setIfInBounds_toArray, List.set_cons_zero, List.set_cons_succ, i64_w, i32_w]
    rfl
  refine one_ (i := 10) (N := some 67) #[true, true, true, true, true, true, true, true, true, true, true, false, false, false, false, false, false, false, false, false, false, false, false, false, false, false, false, false, false] rfl rfl (by kernel_rfl) (by decide) (fun K hK => ?_)
  refine goes_ Try.func26 (by kernel_rfl) rfl #[.pointer (some ⟨g2, 0, none⟩), .agg #[.string k.1, .int .u64 k.2.1, .int .i64 k.2.2]] (by rfl) rfl rfl (by simp only [List.map_toArray, List.map_cons, List.map_nil]; rfl) ?_
  with_reducible refine (HSE2.out _ (HSB.out.below HDb.out)).mono ?_
  rintro e wc ⟨rfl, hb⟩
  refine ⟨_, rfl, ?_⟩
  have HDc := Aside0.mk (show Below w7.heap.size w7 wc from below_step HDb.out hb)
  clear hb
  refine hK.out _ _ ⟨pw_cell_below HDc.out x0, pw_cell_below HDc.out x1, pw_cell_below HDc.out x2⟩ (fun hHeld => ?_)
  clear hK K
  refine norm_ (a' := ?_) ?_ ?_
  rotate_left
  · show Act.put _ (some 67) _ = _
    simp only [Act.put, List.setIfInBounds_toArray, List.set_cons_zero, List.set_cons_succ, i64_w, i32_w]
    rfl
  refine pure_ (i := 11) (N := some 68) (v := ?_) (a' := ?_) #[true, true, true, true, true, true, true, true, true, true, true, true, false, false, false, false, false, false, false, false, false, false, false, false, false, false, false, false, false] rfl rfl (by kernel_rfl) (fun _ _ _ h => h) (Or.inl ⟨by rfl, ?_⟩) ?_ ?_
  rotate_left
  · intro w'
    go_simp
    with_reducible rfl
  rotate_left
  · simp only [Act.put, List.setIfInBounds_toArray, List.set_cons_zero, List.set_cons_succ, i64_w, i32_w]
    rfl
  refine pure_ (i := 12) (N := some 69) (v := ?_) (a' := ?_) #[true, true, true, true, true, true, true, true, true, true, true, true, true, false, false, false, false, false, false, false, false, false, false, false, false, false, false, false, false] rfl rfl (by kernel_rfl) (fun _ _ _ h => h) (Or.inl ⟨by rfl, ?_⟩) ?_ ?_
  rotate_left
  · intro w'
    go_simp
    with_reducible rfl
  rotate_left
  · simp only [Act.put, List.setIfInBounds_toArray, List.set_cons_zero, List.set_cons_succ, i64_w, i32_w]
    rfl
  refine pure_ (i := 13) (N := some 70) (v := ?_) (a' := ?_) #[true, true, true, true, true, true, true, true, true, true, true, true, true, true, false, false, false, false, false, false, false, false, false, false, false, false, false, false, false] rfl rfl (by kernel_rfl) (fun _ _ _ h => h) (Or.inl ⟨by rfl, ?_⟩) ?_ ?_
  rotate_left
  · intro w'
    go_simp
    with_reducible rfl
  rotate_left
  · simp only [Act.put, List.setIfInBounds_toArray, List.set_cons_zero, List.set_cons_succ, i64_w, i32_w]
    rfl
  refine pure_ (i := 14) (N := some 71) (v := ?_) (a' := ?_) #[true, true, true, true, true, true, true, true, true, true, true, true, true, true, true, false, false, false, false, false, false, false, false, false, false, false, false, false, false] rfl rfl (by kernel_rfl) (fun _ _ _ h => h) (Or.inl ⟨by rfl, ?_⟩) ?_ ?_
  rotate_left
  · intro w'
    go_simp
    with_reducible rfl
  rotate_left
  · simp only [Act.put, List.setIfInBounds_toArray, List.set_cons_zero, List.set_cons_succ, i64_w, i32_w]
    rfl
  refine pure_ (i := 17) (N := some 74) (v := ?_) (a' := ?_) #[true, true, true, true, true, true, true, true, true, true, true, true, true, true, true, false, false, true, false, false, false, false, false, false, false, false, false, false, false] rfl rfl (by kernel_rfl) (fun _ _ _ h => h) (Or.inl ⟨by rfl, ?_⟩) ?_ ?_
  rotate_left
  · intro w'
    go_simp
    with_reducible rfl
  rotate_left
  · simp only [Act.put, List.setIfInBounds_toArray, List.set_cons_zero, List.set_cons_succ, i64_w, i32_w]
    rfl
  refine take_ (i := 15) (N := some 72) (v := ?_) (a' := ?_) #[true, true, true, true, true, true, true, true, true, true, true, true, true, true, true, true, false, true, false, false, false, false, false, false, false, false, false, false, false] rfl rfl (by kernel_rfl) (fun _ _ _ h => h) (Or.inl ⟨by rfl, ?_⟩) hHeld ?_ ?_
  rotate_left
  · rintro w' ⟨s0, s1, s2⟩
    go_simp
    with_reducible rfl
  rotate_left
  · simp only [Act.put, List.setIfInBounds_toArray, List.set_cons_zero, List.set_cons_succ, i64_w, i32_w]
    rfl
  refine take_ (i := 18) (N := some 75) (v := ?_) (a' := ?_) #[true, true, true, true, true, true, true, true, true, true, true, true, true, true, true, true, false, true, true, false, false, false, false, false, false, false, false, false, false] rfl rfl (by kernel_rfl) (fun _ _ _ h => h) (Or.inl ⟨by rfl, ?_⟩) hHeld ?_ ?_
  rotate_left
  · rintro w' ⟨s0, s1, s2⟩
    go_simp
    with_reducible rfl
  rotate_left
  · simp only [Act.put, List.setIfInBounds_toArray, List.set_cons_zero, List.set_cons_succ, i64_w, i32_w]
    rfl
  refine one_ (i := 16) (N := some 73) #[true, true, true, true, true, true, true, true, true, true, true, true, true, true, true, true, true, true, true, false, false, false, false, false, false, false, false, false, false] rfl rfl (by kernel_rfl) (by decide) (fun K hK => ?_)
  refine goes_ Try.func25 (by kernel_rfl) rfl #[.pointer (some ⟨g, 0, none⟩), .agg #[.string k.1, .int .u64 k.2.1, .int .i64 k.2.2]] (by rfl) rfl rfl (by simp only [List.map_toArray, List.map_cons, List.map_nil]; rfl) ?_
  with_reducible refine (HBE.out _ (HSA.out.below HDc.out)).mono ?_
  rintro e wd ⟨rfl, hb⟩
  refine ⟨_, rfl, ?_⟩
  have HDd := Aside0.mk (show Below w7.heap.size w7 wd from below_step HDc.out hb)
  clear hb
  refine hK.out _ _ ⟨pw_cell_below HDd.out x0, pw_cell_below HDd.out x1, pw_cell_below HDd.out x2⟩ (fun hHeld => ?_)
  clear hK K
  refine norm_ (a' := ?_) ?_ ?_
  rotate_left
  · show Act.put _ (some 73) _ = _
    simp only [Act.put, List.setIfInBounds_toArray, List.set_cons_zero, List.set_cons_succ, i64_w, i32_w]
    rfl
  refine one_ (i := 19) (N := some 76) #[true, true, true, true, true, true, true, true, true, true, true, true, true, true, true, true, true, true, true, true, false, false, false, false, false, false, false, false, false] rfl rfl (by kernel_rfl) (by decide) (fun K hK => ?_)
  refine goes_ Try.func25 (by kernel_rfl) rfl #[.pointer (some ⟨g2, 0, none⟩), .agg #[.string k.1, .int .u64 k.2.1, .int .i64 k.2.2]] (by rfl) rfl rfl (by simp only [List.map_toArray, List.map_cons, List.map_nil]; rfl) ?_
  with_reducible refine (HBE2.out _ (HSB.out.below HDd.out)).mono ?_
  rintro e wf ⟨rfl, hb⟩
  refine ⟨_, rfl, ?_⟩
  have HDf := Aside0.mk (show Below w7.heap.size w7 wf from below_step HDd.out hb)
  clear hb
  refine hK.out _ _ ⟨pw_cell_below HDf.out x0, pw_cell_below HDf.out x1, pw_cell_below HDf.out x2⟩ (fun hHeld => ?_)
  clear hK K
  refine norm_ (a' := ?_) ?_ ?_
  rotate_left
  · show Act.put _ (some 76) _ = _
    simp only [Act.put, List.setIfInBounds_toArray, List.set_cons_zero, List.set_cons_succ, i64_w, i32_w]
    rfl
  refine pure_ (i := 20) (N := some 77) (v := ?_) (a' := ?_) #[true, true, true, true, true, true, true, true, true, true, true, true, true, true, true, true, true, true, true, true, true, false, false, false, false, false, false, false, false] rfl rfl (by kernel_rfl) (fun _ _ _ h => h) (Or.inl ⟨by rfl, ?_⟩) ?_ ?_
  rotate_left
  · intro w'
    go_simp
    with_reducible rfl
  rotate_left
  · simp only [Act.put, List.setIfInBounds_toArray, List.set_cons_zero, List.set_cons_succ, i64_w, i32_w]
    rfl
  refine pure_ (i := 21) (N := some 78) (v := ?_) (a' := ?_) #[true, true, true, true, true, true, true, true, true, true, true, true, true, true, true, true, true, true, true, true, true, true, false, false, false, false, false, false, false] rfl rfl (by kernel_rfl) (fun _ _ _ h => h) (Or.inl ⟨by rfl, ?_⟩) ?_ ?_
  rotate_left
  · intro w'
    go_simp
    with_reducible rfl
  rotate_left
  · simp only [Act.put, List.setIfInBounds_toArray, List.set_cons_zero, List.set_cons_succ, i64_w, i32_w]
    rfl
  refine pure_ (i := 22) (N := some 79) (v := ?_) (a' := ?_) #[true, true, true, true, true, true, true, true, true, true, true, true, true, true, true, true, true, true, true, true, true, true, true, false, false, false, false, false, false] rfl rfl (by kernel_rfl) (fun _ _ _ h => h) (Or.inl ⟨by rfl, ?_⟩) ?_ ?_
  rotate_left
  · intro w'
    go_simp
    with_reducible rfl
  rotate_left
  · simp only [Act.put, List.setIfInBounds_toArray, List.set_cons_zero, List.set_cons_succ, i64_w, i32_w]
    rfl
  refine pure_ (i := 23) (N := some 80) (v := ?_) (a' := ?_) #[true, true, true, true, true, true, true, true, true, true, true, true, true, true, true, true, true, true, true, true, true, true, true, true, false, false, false, false, false] rfl rfl (by kernel_rfl) (fun _ _ _ h => h) (Or.inl ⟨by rfl, ?_⟩) ?_ ?_
  rotate_left
  · intro w'
    go_simp
    with_reducible rfl
  rotate_left
  · simp only [Act.put, List.setIfInBounds_toArray, List.set_cons_zero, List.set_cons_succ, i64_w, i32_w]
    rfl
  refine pure_ (i := 24) (N := some 81) (v := ?_) (a' := ?_) #[true, true, true, true, true, true, true, true, true, true, true, true, true, true, true, true, true, true, true, true, true, true, true, true, true, false, false, false, false] rfl rfl (by kernel_rfl) (fun _ _ _ h => h) (Or.inl ⟨by rfl, ?_⟩) ?_ ?_
  rotate_left
  · intro w'
    go_simp
    with_reducible rfl
  rotate_left
  · simp only [Act.put, List.setIfInBounds_toArray, List.set_cons_zero, List.set_cons_succ, i64_w, i32_w]
    rfl
  refine pure_ (i := 25) (N := some 82) (v := ?_) (a' := ?_) #[true, true, true, true, true, true, true, true, true, true, true, true, true, true, true, true, true, true, true, true, true, true, true, true, true, true, false, false, false] rfl rfl (by kernel_rfl) (fun _ _ _ h => h) (Or.inl ⟨by rfl, ?_⟩) ?_ ?_
  rotate_left
  · intro w'
    go_simp
    with_reducible rfl
  rotate_left
  · simp only [Act.put, List.setIfInBounds_toArray, List.set_cons_zero, List.set_cons_succ, i64_w, i32_w]
    rfl
  refine pure_ (i := 26) (N := some 83) (v := ?_) (a' := ?_) #[true, true, true, true, true, true, true, true, true, true, true, true, true, true, true, true, true, true, true, true, true, true, true, true, true, true, true, false, false] rfl rfl (by kernel_rfl) (fun _ _ _ h => h) (Or.inl ⟨by rfl, ?_⟩) ?_ ?_
  rotate_left
  · intro w'
    go_simp
    with_reducible rfl
  rotate_left
  · simp only [Act.put, List.setIfInBounds_toArray, List.set_cons_zero, List.set_cons_succ, i64_w, i32_w]
    rfl
  refine pure_ (i := 27) (N := some 84) (v := ?_) (a' := ?_) #[true, true, true, true, true, true, true, true, true, true, true, true, true, true, true, true, true, true, true, true, true, true, true, true, true, true, true, true, false] rfl rfl (by kernel_rfl) (fun _ _ _ h => h) (Or.inl ⟨by rfl, ?_⟩) ?_ ?_
  rotate_left
  · intro w'
    go_simp
    with_reducible rfl
  rotate_left
  · simp only [Act.put, List.setIfInBounds_toArray, List.set_cons_zero, List.set_cons_succ, i64_w, i32_w]
    rfl
  refine pure_ (i := 28) (N := some 85) (v := ?_) (a' := ?_) #[true, true, true, true, true, true, true, true, true, true, true, true, true, true, true, true, true, true, true, true, true, true, true, true, true, true, true, true, true] rfl rfl (by kernel_rfl) (fun _ _ _ h => h) (Or.inl ⟨by rfl, ?_⟩) ?_ ?_
  rotate_left
  · intro w'
    go_simp
    with_reducible rfl
  rotate_left
  · simp only [Act.put, List.setIfInBounds_toArray, List.set_cons_zero, List.set_cons_succ, i64_w, i32_w]
    rfl
  refine done_ (by kernel_rfl) ?_
  have HSA := Aside0.mk (HSA.out.below HDf.out)
  have HSB := Aside0.mk (HSB.out.below HDf.out)
  have HB := Aside0.mk (below_step HB.out HDf.out)
  have HCT := Aside0.mk (Kd.C_below HCT.out HDf.out)
  have HC1 := Aside0.mk (Kd.C_below HC1.out HDf.out)
  have HC2 := Aside0.mk (Kd.C_below HC2.out HDf.out)
  have HK0 := Aside0.mk (Below.refl wf.heap.size wf)
  clear x0 x1 x2 HX HDa HDb HDc HDd HDf HC3 HRI
  go_wp2_with fail
  go_loopg [15] (1 + n) (fun kq v15 wq => ∃ (i : Nat), v15 = .int .i64 (i : Int) ∧ i ≤ n ∧ n - i < kq ∧ Aside0 (Below wf.heap.size wf wq))
  case atStart => exact ⟨0, rfl, Nat.zero_le _, by omega, HK0⟩
  case round =>
    clear HK0
    obtain ⟨i, rfl, hin, hkq, HK⟩ := hrel
    cases gk with
    | zero => omega
    | succ gk1 =>
    by_cases hi : i < n
    · have b1 : decide ((i : Int) < (n : Int)) = true := decide_eq_true (by omega)
      have b1n : decide (i < n) = true := decide_eq_true hi
      have hio : i < S.order.length := by rw [HO.out]; exact hi
      have hC2 := Kd.C_below HC2.out HK.out
      obtain ⟨ad, hA, a0, a1, a2⟩ := at_T37 hC2 (i : Int) (by omega) (by rw [HLE2.out]; omega)
      subst hA
      have e1 : rd_T37 (S.order.map fun z => s37 (S.key z)) (i : Int) = s37 (S.key S.order[i]) := by unfold rd_T37; simp [hio]
      rw [e1, Int.toNat_natCast] at a0 a1 a2
      obtain ⟨ad1, hA1, z0⟩ := Kd.at_int (Kd.C_below HC1.out HK.out) (i : Int) (by omega) (by rw [HLE1.out]; omega)
      subst hA1
      have e2 : rd (ordI S) (i : Int) = ((S.order[i] : Nat) : Int) := by rw [rd_at _ (by rw [HLE1.out]; exact hi)]; unfold ordI; rw [List.getElem_map]
      rw [e2, Int.toNat_natCast] at z0
      have hmem : S.order[i] ∈ S.order := List.getElem_mem hio
      have hzm := HMD.out.fine.mem _ hmem
      obtain ⟨z, hz⟩ : ∃ z, S.order[i] = z := ⟨_, rfl⟩
      rw [hz] at a0 a1 a2 z0 hmem hzm
      have hzn : z ≤ n := by rw [← HN.out, HMD.out.len]; exact hzm.2
      obtain ⟨x, hx⟩ : ∃ x, S.nodes[z - 1]? = some x := ⟨_, List.getElem?_eq_getElem (by omega)⟩
      have hnd := HAL.out.node (z - 1)
      rw [hx] at hnd
      obtain ⟨y, hy⟩ : ∃ y, T.nodes[z - 1]? = some y := by
        cases h : T.nodes[z - 1]? with
        | none => rw [h] at hnd; simp at hnd
        | some y => exact ⟨y, rfl⟩
      rw [hy] at hnd
      have hv : x.2.1 = y.2.1 := by simp at hnd; exact hnd.2
      have htv : t[z - 1]? = some x.2.1 := by rw [← HMD.out.vals, List.getElem?_map, hx]; rfl
      have htl : z - 1 < t.length := (List.getElem?_eq_some_iff.1 htv).1
      obtain ⟨ad2, hA2, t0⟩ := Kd.at_int (Kd.C_below HCT.out HK.out) ((z : Int) - 1) (by omega) (by omega)
      subst hA2
      have e3 : rd t ((z : Int) - 1) = x.2.1 := by
        rw [show (z : Int) - 1 = ((z - 1 : Nat) : Int) by omega, rd_at _ htl]
        exact (List.getElem?_eq_some_iff.1 htv).2
      rw [e3] at t0
      have HSAr := Aside0.mk (HSA.out.below HK.out)
      have HSBr := Aside0.mk (HSB.out.below HK.out)
      have HGA := Aside0.mk (fun W (h : SkAt W g base S 1048576) => sk_get_at g base 1048576 S z W h hmem x hx)
      have HGB := Aside0.mk (fun W (h : SkAt W g2 base2 T 1048576) => sk_get_at g2 base2 1048576 T z W h (by rw [← HAL.out.order]; exact hmem) y hy)
      rw [← hv, ← HAL.out.key] at HGB
      obtain ⟨xv, hxv⟩ : ∃ xv, x.2.1 = xv := ⟨_, rfl⟩
      rw [hxv] at HGA HGB t0
      obtain ⟨⟨xs, xn, xd⟩, hkz⟩ : ∃ x, S.key z = x := ⟨_, rfl⟩
      rw [hkz] at a0 a1 a2 HGA HGB
      simp only [s37] at a0 a1 a2
      have l0 := World.block_lt_of_cell? wr _ a0
      have l1 := World.block_lt_of_cell? wr _ z0
      have l2 := World.block_lt_of_cell? wr _ t0
      have HQ := Aside0.mk (fun (W : World) (hb : Below wr.heap.size wr W) => (⟨pw_cell_below hb a0, pw_cell_below hb a1, pw_cell_below hb a2, (hb.cell l1).trans z0, (hb.cell l2).trans t0⟩ : _ ∧ _ ∧ _ ∧ _ ∧ _))
      have hz1 : 1 ≤ (z : Int) := by omega
      have hz2 : (z : Int) ≤ (n : Int) := by omega
      clear hio hC2 e1 e2 hmem hzm hz hzn hx hnd hy hv htv htl e3 hxv hkz l0 l1 l2 z0 t0
      go_wp2_with fail
      (with_reducible refine (HGA.out _ HSAr.out).mono ?_)
      rintro e wa ⟨rfl, hb⟩
      have HBA := Aside0.mk hb
      obtain ⟨b0, b1', b2', _, _⟩ := HQ.out _ hb
      have HSBr := Aside0.mk (HSBr.out.below hb)
      clear hb a0 a1 a2
      go_wp2_with fail
      (with_reducible refine (HGB.out _ HSBr.out).mono ?_)
      rintro e wb ⟨rfl, hb⟩
      have HBB := Aside0.mk (below_step HBA.out hb)
      obtain ⟨_, _, _, z0, t0⟩ := HQ.out _ HBB.out
      have t1 := t0
      rw [show ((z : Int) - 1).toNat = z - 1 by omega] at t1
      have d1 : decide ((z : Int) < 1) = false := decide_eq_false (by omega)
      have d2 : decide ((z : Int) > (n : Int)) = false := decide_eq_false (by omega)
      have d3 : decide (n < z) = false := decide_eq_false (by omega)
      clear hb b0 b1' b2'
      go_wp2
      go_roundg gk1
      case measure => omega
      case rel => exact ⟨i + 1, by go_num, by omega, by omega, ⟨below_step HK.out HBB.out⟩⟩
    · obtain rfl : i = n := by omega
      have b1 : decide ((i : Int) < (i : Int)) = false := decide_eq_false (by omega)
      have b1n : decide (i < i) = false := decide_eq_false (by omega)
      have HB := Aside0.mk (below_step HB.out HK.out)
      go_wp2
      go_ret
      exact ⟨by simp, HB.out⟩
theorem SkipHeights_upto (w : World) (A0 : Option Addr) (c0 : Nat) (l0 : List (S37 × Int)) (hc0 : l0.length ≤ c0) (hr0 : Kd.C (Kd.pair k37 (Kd.int .i64)) w A0 l0.length l0) (hg0 : ∀ x ∈ l0, (x.1.f0.size ≤ maxLen ∧ (Lit.int .u64 x.1.f1).wf = true ∧ (Lit.int .i64 x.1.f2).wf = true) ∧ (Lit.int .i64 x.2).wf = true)
    (a1 : Int) (hg1 : (Lit.int .i64 a1).wf = true) (cs1 : Array Value) (x1 : (ByteArray × Int × Int)) (hK1 : (Kd.pair Kd.string (Kd.pair (Kd.int .u64) (Kd.int .i64))).K w x1 cs1.toList) (hg2 : x1.1.size ≤ maxLen ∧ (Lit.int .u64 x1.2.1).wf = true ∧ (Lit.int .i64 x1.2.2).wf = true)
    (hbulk : (sumBulk (fun x : S37 × Int => (x.1.f0.size + 1 + 1 + 1 + 1) + 1 + 1) l0 + 1) + 1 + (x1.1.size + 1 + 1 + 1 + 1) ≤ 1048576) :
    Calls Try.prog 6 #[.slice A0 l0.length c0, .int .i64 a1, .agg cs1] w fun e w' => e = .returned (.bool true) ∧ Below w.heap.size w w' := by
  obtain ⟨k, s, n⟩ := x1
  have hcs := open_k3 hK1
  subst hcs
  have hlen := sumBulk_len (fun x : S37 × Int => (x.1.f0.size + 1 + 1 + 1 + 1) + 1 + 1) (fun _ => by omega) l0
  exact heights_calls A0 c0 l0 a1 (k, s, n) w hr0 hc0 (by omega)

end Go.Proofs.Ytehfcafmdnfamaa.G
