/- Contracts of functions and plain laws, several texts of the session put together by its program. -/
import Derived.Test.YtehfcafmdnfamaaProg
import Derived.Below
import Derived.Deep.Draws
import Derived.Deep.AppendLies
import Derived.Maps.AppendAt
import Derived.OwnWalk
import Derived.Laws.BytesArg
import Derived.Laws.MakeOwn
import Derived.Laws.OwnMore
import Derived.Deep.OwnRows
import Derived.Tactics
import Derived.Lib.ConvBytes
import Derived.Laws.Slices
import Derived.WalkKit
import Derived.KernelRfl
import Derived.RowKit3
import Derived.Deep.LoopGhost
import Derived.Deep.QuietTactic
import Derived.BigQuiet
import Derived.WideLaws
import Derived.Deep.DeepCutAuto
import Derived.Deep.CutBlock
import Derived.Deep.RegionHeld3
import Derived.Laws.Rows
import Derived.Lib.AppendStr
import Derived.ArgAppend
import Derived.Laws.IdiomCopy
import Derived.OrdersHeld
import Derived.Laws.BitsLemmas
import Derived.RowKit
import Derived.Test.YtehfcafmdnfamaaWWords
import Derived.Test.YtehfcafmdnfamaaWLast
import Derived.Test.YtehfcafmdnfamaaWTab
import Derived.Test.YtehfcafmdnfamaaWFour
import Derived.Test.YtehfcafmdnfamaaWQPut
import Derived.Test.YtehfcafmdnfamaaWApart
import Derived.Test.YtehfcafmdnfamaaWArr
import Derived.Test.YtehfcafmdnfamaaWZeros
import Derived.Test.YtehfcafmdnfamaaWFoot
import Derived.Test.YtehfcafmdnfamaaWKept
import Derived.Test.YtehfcafmdnfamaaWShare
import Derived.Test.YtehfcafmdnfamaaWN
import Derived.Test.YtehfcafmdnfamaaWFootNe
import Derived.Test.YtehfcafmdnfamaaWAt
import Derived.Test.YtehfcafmdnfamaaWEqStruct
import Derived.Test.YtehfcafmdnfamaaWRepsOne
import Derived.Test.YtehfcafmdnfamaaWInv
import Derived.Test.YtehfcafmdnfamaaWInvWords
import Derived.Test.YtehfcafmdnfamaaWGuard
import Derived.Test.YtehfcafmdnfamaaWNEv
import Derived.Test.YtehfcafmdnfamaaWMore
import Derived.Test.YtehfcafmdnfamaaQ3

/- Contracts typed by hand: the law SkipMemory -/
namespace Go.Proofs.Ytehfcafmdnfamaa.G
open Go.RowKit Go.Proofs.YtehfcafmdnfamaaW.PrintWords Go.Proofs.YtehfcafmdnfamaaW.PrintLast Go.Proofs.YtehfcafmdnfamaaW.PrintMore
attribute [local go_sem] max2_int min2_int max_two min_two max_three min_three max_four min_four
set_option linter.unusedVariables false
set_option linter.unusedSimpArgs false

/-! the law SkipMemory -/
theorem SkAt.keptRow {w w' : World} {g base most b2 : Nat} {S : SL Int} {v : Value} {l : List Int} (h : SkAt w g base S most) (hr : Kd.R (Kd.int .i64) 3 w b2 (fun _ => True) v l) (hk : Kept w w' (fun k => some k = v.ownBlock)) : SkAt w' g base S most := by
  obtain ⟨b, c, ns, h1, h2, h3⟩ := h
  have e1 := Kd.R_ne hr h1 (by decide)
  refine ⟨b, c, ns, (hk.2 g (blk_lt h1) e1).trans h1, ndR_move h2 fun q hq => ?_, h3⟩
  have : b = q := by simpa [Value.ownBlock] using hq
  subst this
  obtain ⟨inner, hown⟩ := Kd.R_own h2
  obtain ⟨cs, hc⟩ := own_typed hown b rfl
  exact hk.2 b (blk_lt hc) (Kd.R_ne hr hc (by decide))
theorem intR_kept {w w' : World} {b1 : Nat} {v u : Value} {l : List Int} (h : Kd.R (Kd.int .i64) 3 w b1 (fun _ => True) v l) (hk : Kept w w' (fun k => some k = u.ownBlock)) (hne : ∀ k, v.ownBlock = some k → u.ownBlock ≠ some k) : Kd.R (Kd.int .i64) 3 w' b1 (fun _ => True) v l :=
  intR_move h fun q hq => hk.2 q (Kd.R_lt h q hq) (fun e => hne q hq e.symm)
theorem rows_apart {w w' : World} {b1 b2 : Nat} {v u : Value} {l l' : List Int} (h : Kd.R (Kd.int .i64) 3 w b1 (fun _ => True) v l) (h' : Kd.R (Kd.int .i64) 3 w' b2 (fun _ => True) u l') (hle : w.heap.size ≤ b2) : (∀ k, v.ownBlock = some k → u.ownBlock ≠ some k) ∧ (∀ k, u.ownBlock = some k → v.ownBlock ≠ some k) := by
  constructor
  · intro k hk e
    have := Kd.R_lt h k hk
    have := Kd.R_base h' k e
    omega
  · intro k hk e
    have := Kd.R_lt h k e
    have := Kd.R_base h' k hk
    omega
set_option maxHeartbeats 32000000 in
set_option maxRecDepth 100000 in
theorem memory_calls (A : Option Addr) (c : Nat) (l : List Put08) (k : IK) (w : World) (hr : Kd.C PutK w A l.length l) (hc : l.length ≤ c) (hlen : l.length ≤ 1048576) :
    Calls Try.prog 4 #[.slice A l.length c, .agg #[.string k.1, .int .u64 k.2.1, .int .i64 k.2.2]] w fun e w' => e = .returned (.bool true) ∧ Below w.heap.size w w' := by
  have HR0 := Aside0.mk hr
  have HC0 := Aside0.mk hc
  have HLE := Aside0.mk hlen
  obtain ⟨W1, hW1⟩ : ∃ W1, w.alloc (.cells #[.string k.1, .int .u64 k.2.1, .int .i64 k.2.2] 37) = W1 := ⟨_, rfl⟩
  have HB := Aside0.mk (show Below w.heap.size w W1 by rw [← hW1]; exact below_alloc (Below.refl _ _) _)
  have HX := Aside0.mk (show W1.heap[w.heap.size]? = some (.cells #[.string k.1, .int .u64 k.2.1, .int .i64 k.2.2] 37 (0, 0)) by rw [← hW1]; exact blk_new w _)
  have HE1 := Aside0.mk hW1
  clear hr hc hlen hW1
  go_enter Try.func4, Try.ntmps4
  go_wp2_with fail
  rw [HE1.out]
  (with_reducible refine (works_calls _).mono ?_)
  rintro e w2 ⟨rfl, hb⟩
  have HB := Aside0.mk (below_step HB.out hb)
  have HX := Aside0.mk (blk_below HX.out hb)
  clear hb HE1
  go_wp2_with fail
  (with_reducible refine (made_calls A c l 0 _ (Kd.C_below HR0.out HB.out) HC0.out HLE.out).mono ?_)
  rintro e w3 ⟨g, tk, rfl, hsk, hrt, hb⟩
  obtain ⟨base, hbase⟩ : ∃ base, w2.heap.size = base := ⟨_, rfl⟩
  rw [hbase] at hsk hrt
  have HSK := Aside0.mk hsk
  have hmd := madeS_made (hgt 0) (putsOf l) 0 SL.nil [] made_nil
  have hmd : Made (madeL 0 l).1 (madeL 0 l).2 := hmd
  have HB := Aside0.mk (below_step HB.out hb)
  have HX := Aside0.mk (blk_below HX.out hb)
  obtain ⟨At, ct, rfl, hct, hCt⟩ := Kd.R_reads hrt
  have hlT := hmd.len
  rw [← hmd.fine.len] at hlT
  have hlL := congrArg List.length (lvls_zero hmd.fine)
  rw [List.length_map, ← hlT, ← lvl_nat] at hlL
  generalize (madeL 0 l).1 = S at HSK hlL hmd hlT
  generalize (madeL 0 l).2 = t at hlL hlT hrt hmd hCt hct
  have HF := Aside0.mk HSK.out.fine
  have hnb : (lvl S 0).length ≤ 1048576 := by
    rw [show lvl S 0 = lvl S ((0 : Nat) : Int) from rfl, hlL, hlT, HF.out.1.len]; exact HF.out.2.1
  obtain ⟨n, hn⟩ : ∃ n, t.length = n := ⟨_, rfl⟩
  rw [hn] at hlL hct hCt hrt
  rw [hn]
  have HRTK := Aside0.mk hrt
  have hlL0 : (lvl S 0).length = n := hlL
  clear hsk hrt hb hbase hct hCt hlT hn hlL hmd
  go_wp2_with fail
  have HNW := Aside0.mk (sk_new 1 w3 (by decide) (by decide))
  rw [show ((1 : Nat) : Int) = 1 from rfl] at HNW
  (with_reducible refine HNW.out.mono ?_)
  rintro e w4 ⟨g2, rfl, hs2, hb⟩
  obtain ⟨base2, hbase2⟩ : ∃ base2, w3.heap.size = base2 := ⟨_, rfl⟩
  rw [hbase2] at hs2
  have HS2 := Aside0.mk hs2
  have HB4 := Aside0.mk (below_step HB.out hb)
  have HSK := Aside0.mk (HSK.out.below hb)
  have HB := Aside0.mk (below_step HB.out hb)
  have HX := Aside0.mk (blk_below HX.out hb)
  have HLI := Aside0.mk (fun W (h : SkAt W g base S 1048576) => sk_links g base 1048576 S 0 W h)
  have HTR := Aside0.mk (fun W (h : SkAt W g base S 1048576) => sk_trailL g base 1048576 S k W h)
  have hlt : (trt S k 0 S.height).length = S.height := trt_len _ _ _ _
  have hH12 := S.height_le HF.out.1
  generalize lvl S 0 = La at HLI hlL0 hnb
  generalize trt S k 0 S.height = Lc at HTR hlt
  generalize S.height = H at hlt hH12
  have x0 := blk_cell HX.out 0
  have x1 := blk_cell HX.out 1
  have x2 := blk_cell HX.out 2
  have HLA := Aside0.mk hlL0
  have HLC := Aside0.mk hlt
  rw [hlL0] at hnb
  clear hs2 hb hbase2 HNW hlL0 hlt
  go_wp2_with fail
  refine start_ (n := 14) (S := fun w' => w'.cell? ⟨w.heap.size, 0, none⟩ = some (.string k.1) ∧ w'.cell? ⟨w.heap.size, 1, none⟩ = some (.int .u64 k.2.1) ∧ w'.cell? ⟨w.heap.size, 2, none⟩ = some (.int .i64 k.2.2)) (ds := []) #[false, false, false, false, false, false, false, false, false, false, false, false, false, false] (by kernel_rfl) rfl rfl ⟨x0, x1, x2⟩ (fun hHeld => ?_)
  refine pure_ (i := 0) (N := some 36) (v := ?_) (a' := ?_) #[true, false, false, false, false, false, false, false, false, false, false, false, false, false] rfl rfl (by kernel_rfl) (fun _ _ _ h => h) (Or.inl ⟨by rfl, ?_⟩) ?_ ?_
  rotate_left
  · intro w'
    go_simp
    with_reducible rfl
  rotate_left
  · simp only [Act.put, List.setIfInBounds_toArray, List.set_cons_zero, List.set_cons_succ, i64_w, i32_w]
    rfl
  refine pure_ (i := 2) (N := some 38) (v := ?_) (a' := ?_) #[true, false, true, false, false, false, false, false, false, false, false, false, false, false] rfl rfl (by kernel_rfl) (fun _ _ _ h => h) (Or.inl ⟨by rfl, ?_⟩) ?_ ?_
  rotate_left
  · intro w'
    go_simp
    with_reducible rfl
  rotate_left
  · simp only [Act.put, List.setIfInBounds_toArray, List.set_cons_zero, List.set_cons_succ, i64_w, i32_w]
    rfl
  refine pure_ (i := 4) (N := some 40) (v := ?_) (a' := ?_) #[true, false, true, false, true, false, false, false, false, false, false, false, false, false] rfl rfl (by kernel_rfl) (fun _ _ _ h => h) (Or.inl ⟨by rfl, ?_⟩) ?_ ?_
  rotate_left
  · intro w'
    go_simp
    with_reducible rfl
  rotate_left
  · simp only [Act.put, List.setIfInBounds_toArray, List.set_cons_zero, List.set_cons_succ, i64_w, i32_w]
    rfl
  refine pure_ (i := 7) (N := some 43) (v := ?_) (a' := ?_) #[true, false, true, false, true, false, false, true, false, false, false, false, false, false] rfl rfl (by kernel_rfl) (fun _ _ _ h => h) (Or.inl ⟨by rfl, ?_⟩) ?_ ?_
  rotate_left
  · intro w'
    go_simp
    with_reducible rfl
  rotate_left
  · simp only [Act.put, List.setIfInBounds_toArray, List.set_cons_zero, List.set_cons_succ, i64_w, i32_w]
    rfl
  refine take_ (i := 5) (N := some 41) (v := ?_) (a' := ?_) #[true, false, true, false, true, true, false, true, false, false, false, false, false, false] rfl rfl (by kernel_rfl) (fun _ _ _ h => h) (Or.inl ⟨by rfl, ?_⟩) hHeld ?_ ?_
  rotate_left
  · rintro w' ⟨s0, s1, s2⟩
    go_simp
    with_reducible rfl
  rotate_left
  · simp only [Act.put, List.setIfInBounds_toArray, List.set_cons_zero, List.set_cons_succ, i64_w, i32_w]
    rfl
  refine take_ (i := 8) (N := some 44) (v := ?_) (a' := ?_) #[true, false, true, false, true, true, false, true, true, false, false, false, false, false] rfl rfl (by kernel_rfl) (fun _ _ _ h => h) (Or.inl ⟨by rfl, ?_⟩) hHeld ?_ ?_
  rotate_left
  · rintro w' ⟨s0, s1, s2⟩
    go_simp
    with_reducible rfl
  rotate_left
  · simp only [Act.put, List.setIfInBounds_toArray, List.set_cons_zero, List.set_cons_succ, i64_w, i32_w]
    rfl
  refine one_ (i := 1) (N := some 37) #[true, true, true, false, true, true, false, true, true, false, false, false, false, false] rfl rfl (by kernel_rfl) (by decide) (fun K hK => ?_)
  refine goes_ Try.func18 (by kernel_rfl) rfl #[.pointer (some ⟨g, 0, none⟩), .int .i64 0] (by rfl) rfl rfl (by simp only [List.map_toArray, List.map_cons, List.map_nil]; rfl) ?_
  with_reducible refine (HLI.out _ (HSK.out.below (below_drew1 (Below.refl _ _)))).mono ?_
  rintro e wa ⟨va, rfl, hr, hb⟩
  refine ⟨_, rfl, ?_⟩
  have HRa := Aside0.mk hr
  have HNa := Aside0.mk hb
  have HDa := Aside0.mk (show Below w4.heap.size w4 wa from below_step (below_drew1 (Below.refl _ _)) hb)
  clear hr hb
  refine hK.out _ _ ⟨pw_cell_below HDa.out x0, pw_cell_below HDa.out x1, pw_cell_below HDa.out x2⟩ (fun hHeld => ?_)
  clear hK K
  refine norm_ (a' := ?_) ?_ ?_
  rotate_left
  · show Act.put _ (some 37) _ = _
    simp only [Act.put, List.setIfInBounds_toArray, List.set_cons_zero, List.set_cons_succ, i64_w, i32_w]
    rfl
  refine one_ (i := 3) (N := some 39) #[true, true, true, true, true, true, false, true, true, false, false, false, false, false] rfl rfl (by kernel_rfl) (by decide) (fun K hK => ?_)
  refine goes_ Try.func18 (by kernel_rfl) rfl #[.pointer (some ⟨g, 0, none⟩), .int .i64 0] (by rfl) rfl rfl (by simp only [List.map_toArray, List.map_cons, List.map_nil]; rfl) ?_
  with_reducible refine (HLI.out _ (HSK.out.below HDa.out)).mono ?_
  rintro e wb ⟨vb, rfl, hr, hb⟩
  refine ⟨_, rfl, ?_⟩
  have HRb := Aside0.mk hr
  have HNb := Aside0.mk hb
  have HDb := Aside0.mk (show Below w4.heap.size w4 wb from below_step HDa.out hb)
  clear hr hb
  refine hK.out _ _ ⟨pw_cell_below HDb.out x0, pw_cell_below HDb.out x1, pw_cell_below HDb.out x2⟩ (fun hHeld => ?_)
  clear hK K
  refine norm_ (a' := ?_) ?_ ?_
  rotate_left
  · show Act.put _ (some 39) _ = _
    simp only [Act.put, List.setIfInBounds_toArray, List.set_cons_zero, List.set_cons_succ, i64_w, i32_w]
    rfl
  refine one_ (i := 6) (N := some 42) #[true, true, true, true, true, true, true, true, true, false, false, false, false, false] rfl rfl (by kernel_rfl) (by decide) (fun K hK => ?_)
  refine goes_ Try.func19 (by kernel_rfl) rfl #[.pointer (some ⟨g, 0, none⟩), .agg #[.string k.1, .int .u64 k.2.1, .int .i64 k.2.2]] (by rfl) rfl rfl (by simp only [List.map_toArray, List.map_cons, List.map_nil]; rfl) ?_
  with_reducible refine (HTR.out _ (HSK.out.below HDb.out)).mono ?_
  rintro e wc ⟨vc, rfl, hr, hb⟩
  refine ⟨_, rfl, ?_⟩
  have HRc := Aside0.mk hr
  have HNc := Aside0.mk hb
  have HDc := Aside0.mk (show Below w4.heap.size w4 wc from below_step HDb.out hb)
  clear hr hb
  refine hK.out _ _ ⟨pw_cell_below HDc.out x0, pw_cell_below HDc.out x1, pw_cell_below HDc.out x2⟩ (fun hHeld => ?_)
  clear hK K
  refine norm_ (a' := ?_) ?_ ?_
  rotate_left
  · show Act.put _ (some 42) _ = _
    simp only [Act.put, List.setIfInBounds_toArray, List.set_cons_zero, List.set_cons_succ, i64_w, i32_w]
    rfl
  refine one_ (i := 9) (N := some 45) #[true, true, true, true, true, true, true, true, true, true, false, false, false, false] rfl rfl (by kernel_rfl) (by decide) (fun K hK => ?_)
  refine goes_ Try.func19 (by kernel_rfl) rfl #[.pointer (some ⟨g, 0, none⟩), .agg #[.string k.1, .int .u64 k.2.1, .int .i64 k.2.2]] (by rfl) rfl rfl (by simp only [List.map_toArray, List.map_cons, List.map_nil]; rfl) ?_
  with_reducible refine (HTR.out _ (HSK.out.below HDc.out)).mono ?_
  rintro e wd ⟨vd, rfl, hr, hb⟩
  refine ⟨_, rfl, ?_⟩
  have HRd := Aside0.mk hr
  have HNd := Aside0.mk hb
  have HDd := Aside0.mk (show Below w4.heap.size w4 wd from below_step HDc.out hb)
  clear hr hb
  refine hK.out _ _ ⟨pw_cell_below HDd.out x0, pw_cell_below HDd.out x1, pw_cell_below HDd.out x2⟩ (fun hHeld => ?_)
  clear hK K
  refine norm_ (a' := ?_) ?_ ?_
  rotate_left
  · show Act.put _ (some 45) _ = _
    simp only [Act.put, List.setIfInBounds_toArray, List.set_cons_zero, List.set_cons_succ, i64_w, i32_w]
    rfl
  refine pure_ (i := 10) (N := some 9) (v := ?_) (a' := ?_) #[true, true, true, true, true, true, true, true, true, true, true, false, false, false] rfl rfl (by kernel_rfl) (fun _ _ _ h => h) (Or.inl ⟨by rfl, ?_⟩) ?_ ?_
  rotate_left
  · intro w'
    go_simp
    with_reducible rfl
  rotate_left
  · simp only [Act.put, List.setIfInBounds_toArray, List.set_cons_zero, List.set_cons_succ, i64_w, i32_w]
    rfl
  refine pure_ (i := 11) (N := some 10) (v := ?_) (a' := ?_) #[true, true, true, true, true, true, true, true, true, true, true, true, false, false] rfl rfl (by kernel_rfl) (fun _ _ _ h => h) (Or.inl ⟨by rfl, ?_⟩) ?_ ?_
  rotate_left
  · intro w'
    go_simp
    with_reducible rfl
  rotate_left
  · simp only [Act.put, List.setIfInBounds_toArray, List.set_cons_zero, List.set_cons_succ, i64_w, i32_w]
    rfl
  refine pure_ (i := 12) (N := some 11) (v := ?_) (a' := ?_) #[true, true, true, true, true, true, true, true, true, true, true, true, true, false] rfl rfl (by kernel_rfl) (fun _ _ _ h => h) (Or.inl ⟨by rfl, ?_⟩) ?_ ?_
  rotate_left
  · intro w'
    go_simp
    with_reducible rfl
  rotate_left
  · simp only [Act.put, List.setIfInBounds_toArray, List.set_cons_zero, List.set_cons_succ, i64_w, i32_w]
    rfl
  refine pure_ (i := 13) (N := some 12) (v := ?_) (a' := ?_) #[true, true, true, true, true, true, true, true, true, true, true, true, true, true] rfl rfl (by kernel_rfl) (fun _ _ _ h => h) (Or.inl ⟨by rfl, ?_⟩) ?_ ?_
  rotate_left
  · intro w'
    go_simp
    with_reducible rfl
  rotate_left
  · simp only [Act.put, List.setIfInBounds_toArray, List.set_cons_zero, List.set_cons_succ, i64_w, i32_w]
    rfl
  refine done_ (by kernel_rfl) ?_
  have HSK := Aside0.mk (HSK.out.below HDd.out)
  have HS2 := Aside0.mk (HS2.out.below HDd.out)
  have HB := Aside0.mk (below_step HB.out HDd.out)
  have HX := Aside0.mk (blk_below HX.out HDd.out)
  have s1 := HNb.out.size
  have s2 := HNc.out.size
  have hab := rows_apart HRa.out HRb.out (Nat.le_refl _)
  have hac := rows_apart HRa.out HRc.out s1
  have had := rows_apart HRa.out HRd.out (Nat.le_trans s1 s2)
  have hbc := rows_apart HRb.out HRc.out (Nat.le_refl _)
  have hcd := rows_apart HRc.out HRd.out (Nat.le_refl _)
  have s0 := HB.out.size
  have HRa := Aside0.mk (Kd.R_below (Kd.R_below (Kd.R_below HRa.out HNb.out) HNc.out) HNd.out)
  have HRb := Aside0.mk (Kd.R_below (Kd.R_below HRb.out HNc.out) HNd.out)
  have HRc := Aside0.mk (Kd.R_below HRc.out HNd.out)
  have hw4 : w.heap.size ≤ w4.drew.heap.size := (show w.heap.size ≤ w4.heap.size by have := HB4.out.size; omega)
  have hwb : w.heap.size ≤ wb.heap.size := Nat.le_trans hw4 (Nat.le_trans HNa.out.size s1)
  generalize w4.drew.heap.size = ba at HRa hw4
  generalize wa.heap.size = bb at HRb
  generalize wb.heap.size = bc at HRc hwb
  generalize wc.heap.size = bd at HRd
  have Hba := Aside0.mk hw4
  have Hbc := Aside0.mk hwb
  obtain ⟨Aa, ca, rfl, hca, hCa⟩ := Kd.R_reads HRa.out
  obtain ⟨Ab, cb, rfl, hcb, hCb⟩ := Kd.R_reads HRb.out
  obtain ⟨Ac, cc, rfl, hcc, hCc⟩ := Kd.R_reads HRc.out
  obtain ⟨Ad, cd, rfl, hcd2, hCd⟩ := Kd.R_reads HRd.out
  have hlA := HLA.out
  have hlC := HLC.out
  have HCab := Aside0.mk (And.intro hCa hCb)
  have HCcd := Aside0.mk (And.intro hCc hCd)
  have HCC := Aside0.mk (And.intro (And.intro hca hcb) (And.intro hcc hcd2))
  rw [hlA] at HRa HRb hab hac had hbc
  rw [hlC] at HRc HRd hac had hbc hcd
  rw [hlA, hlC]
  have HAP := Aside0.mk (And.intro hab.2 (And.intro hac.2 had.2))
  have HAP2 := Aside0.mk (And.intro hbc.1 hcd.2)
  have HLC1 := Aside0.mk (show Lc.length ≤ 1099511627776 by omega)
  have HLA1 := Aside0.mk (show La.length ≤ 1099511627776 by omega)
  clear hab hac had hbc hcd hca hCa hcb hCb hcc hCc hcd2 hCd hlA hlC s0 s1 s2 hw4 hwb
  rename_i hHd
  clear x0 x1 x2
  go_wp2_with fail
  (with_reducible refine (ints_rows (l := La) HCab.out.1 HCab.out.2 HCC.out.1.1 HCC.out.1.2 HLA1.out HLA.out.symm HLA.out.symm).mono ?_)
  rintro e we ⟨rfl, hb⟩
  have HSK := Aside0.mk (HSK.out.below hb)
  have HS2 := Aside0.mk (HS2.out.below hb)
  have HB := Aside0.mk (below_step HB.out hb)
  have HX := Aside0.mk (blk_below HX.out hb)
  have HRa := Aside0.mk (Kd.R_below HRa.out hb)
  have HRb := Aside0.mk (Kd.R_below HRb.out hb)
  have HRc := Aside0.mk (Kd.R_below HRc.out hb)
  have HRd := Aside0.mk (Kd.R_below HRd.out hb)
  have HCcd := Aside0.mk (And.intro (Kd.C_below HCcd.out.1 hb) (Kd.C_below HCcd.out.2 hb))
  clear hb
  go_wp2_with fail
  (with_reducible refine (ints_rows (l := Lc) HCcd.out.1 HCcd.out.2 HCC.out.2.1 HCC.out.2.2 HLC1.out HLC.out.symm HLC.out.symm).mono ?_)
  rintro e wf ⟨rfl, hb⟩
  have HSK := Aside0.mk (HSK.out.below hb)
  have HS2 := Aside0.mk (HS2.out.below hb)
  have HB := Aside0.mk (below_step HB.out hb)
  have HX := Aside0.mk (blk_below HX.out hb)
  have HRa := Aside0.mk (Kd.R_below HRa.out hb)
  have HRb := Aside0.mk (Kd.R_below HRb.out hb)
  have HRc := Aside0.mk (Kd.R_below HRc.out hb)
  have HRd := Aside0.mk (Kd.R_below HRd.out hb)
  clear hb HCcd HCab
  go_wp2_with fail
  go_loopg [13] (1 + n) (fun kq vi wq => ∃ (i : Nat) (lz : List Int), vi = .int .i64 (i : Int) ∧ i ≤ n ∧ n - i < kq ∧ lz.length = n ∧ Aside0 (Kd.R (Kd.int .i64) 3 wq ba (fun _ => True) (.slice Aa n ca) lz) ∧ Aside0 (Kept wf wq (fun k => some k = ((.slice Aa n ca) : Value).ownBlock)) ∧ Aside0 (Below w.heap.size w wq))
  case atStart => exact ⟨0, La, rfl, Nat.zero_le _, by omega, HLA.out, HRa, ⟨Kept.refl _ _⟩, HB⟩
  case round =>
    clear HB
    obtain ⟨i, lz, rfl, hin, hkq, hlz, HRZ, HKZ, HB⟩ := hrel
    cases gk with
    | zero => omega
    | succ gk1 =>
    by_cases hi : i < n
    · have b1 : decide ((i : Int) < (n : Int)) = true := decide_eq_true (by omega)
      have b1n : decide (i < n) = true := decide_eq_true hi
      obtain ⟨ob, oc, hob, hobb, _⟩ := Kd.R_form HRZ.out (by omega)
      obtain ⟨e1, e2, e3⟩ := (Value.slice.injEq _ _ _ _ _ _).mp hob
      subst e1
      have HLZ := Aside0.mk hlz
      obtain ⟨hc, hf⟩ := Kd.R_celln (0 : Int) HRZ.out (i : Int) (by omega) (by omega)
      rw [Int.toNat_natCast] at hc hf
      have hput := Kd.R_putn HRZ.out (i : Int) (-1 : Int)
      rw [Int.toNat_natCast] at hput
      have HPUT := Aside0.mk hput
      have HKS := Aside0.mk (HKZ.out.setCell (p := ⟨ob, i, none⟩) (Or.inl rfl) (.int .i64 (-1)))
      have HBS := Aside0.mk (HB.out.setCell (p := ⟨ob, i, none⟩) (Nat.le_trans Hba.out hobb) (.int .i64 (-1)))
      have hib : (i : Int) ≤ 1048576 := by omega
      clear hob hput hobb e2 e3 hlz
      go_wp2
      go_roundg gk1
      case measure => omega
      case rel => exact ⟨i + 1, lz.set i (-1), by go_num, by omega, by omega, by rw [List.length_set]; exact HLZ.out, HPUT, HKS, HBS⟩
    · obtain rfl : i = n := by omega
      have b1 : decide ((i : Int) < (i : Int)) = false := decide_eq_false (by omega)
      have b1n : decide (i < i) = false := decide_eq_false (by omega)
      have HSK := Aside0.mk (HSK.out.keptRow HRa.out HKZ.out)
      have HS2 := Aside0.mk (HS2.out.keptRow HRa.out HKZ.out)
      have HRb := Aside0.mk (intR_kept HRb.out HKZ.out HAP.out.1)
      have HRc := Aside0.mk (intR_kept HRc.out HKZ.out HAP.out.2.1)
      have HRd := Aside0.mk (intR_kept HRd.out HKZ.out HAP.out.2.2)
      have HX := Aside0.mk ((HKZ.out.2 _ (blk_lt HX.out) (Kd.R_ne HRa.out HX.out (by decide))).trans HX.out)
      clear HKZ HRZ HRa b1 b1n hkq
      go_wp2_with fail
      go_loopg [14] (1 + H) (fun kq vi wq => ∃ (i : Nat) (lz : List Int), vi = .int .i64 (i : Int) ∧ i ≤ H ∧ H - i < kq ∧ lz.length = H ∧ Aside0 (Kd.R (Kd.int .i64) 3 wq bc (fun _ => True) (.slice Ac H cc) lz) ∧ Aside0 (Kept wr wq (fun k => some k = ((.slice Ac H cc) : Value).ownBlock)) ∧ Aside0 (Below w.heap.size w wq))
      case atStart => exact ⟨0, Lc, rfl, Nat.zero_le _, by omega, HLC.out, HRc, ⟨Kept.refl _ _⟩, HB⟩
      case round =>
        clear HB
        obtain ⟨i, lz, rfl, hin, hkq, hlz, HRZ, HKZ, HB⟩ := hrel
        cases gk with
        | zero => omega
        | succ gk1 =>
        by_cases hi : i < H
        · have b1 : decide ((i : Int) < (H : Int)) = true := decide_eq_true (by omega)
          have b1n : decide (i < H) = true := decide_eq_true hi
          obtain ⟨ob, oc, hob, hobb, _⟩ := Kd.R_form HRZ.out (by omega)
          obtain ⟨e1, e2, e3⟩ := (Value.slice.injEq _ _ _ _ _ _).mp hob
          subst e1
          have HLZ := Aside0.mk hlz
          obtain ⟨hc, hf⟩ := Kd.R_celln (0 : Int) HRZ.out (i : Int) (by omega) (by omega)
          rw [Int.toNat_natCast] at hc hf
          have hput := Kd.R_putn HRZ.out (i : Int) (-2 : Int)
          rw [Int.toNat_natCast] at hput
          have HPUT := Aside0.mk hput
          have HKS := Aside0.mk (HKZ.out.setCell (p := ⟨ob, i, none⟩) (Or.inl rfl) (.int .i64 (-2)))
          have HBS := Aside0.mk (HB.out.setCell (p := ⟨ob, i, none⟩) (Nat.le_trans Hbc.out hobb) (.int .i64 (-2)))
          have hib : (i : Int) ≤ 1048576 := by omega
          clear hob hput hobb e2 e3 hlz
          go_wp2
          go_roundg gk1
          case measure => omega
          case rel => exact ⟨i + 1, lz.set i (-2), by go_num, by omega, by omega, by rw [List.length_set]; exact HLZ.out, HPUT, HKS, HBS⟩
        · obtain rfl : i = H := by omega
          have b1 : decide ((i : Int) < (i : Int)) = false := decide_eq_false (by omega)
          have b1n : decide (i < i) = false := decide_eq_false (by omega)
          have HSK := Aside0.mk (HSK.out.keptRow HRc.out HKZ.out)
          have HS2 := Aside0.mk (HS2.out.keptRow HRc.out HKZ.out)
          have HRb := Aside0.mk (intR_kept HRb.out HKZ.out HAP2.out.1)
          have HRd := Aside0.mk (intR_kept HRd.out HKZ.out HAP2.out.2)
          have HX := Aside0.mk ((HKZ.out.2 _ (blk_lt HX.out) (Kd.R_ne HRc.out HX.out (by decide))).trans HX.out)
          clear HKZ HRZ HRc
          go_wp2_with fail
          (with_reducible refine (HLI.out _ HSK.out).mono ?_)
          rintro e wg ⟨v, rfl, hr, hb⟩
          obtain ⟨A1, c1, rfl, hc1, hC1⟩ := Kd.R_reads hr
          have HC1 := Aside0.mk hC1
          have HL1 := Aside0.mk hc1
          have HCb := Aside0.mk (Kd.C_below (Kd.R_reads' HRb.out).2.2 hb)
          have HRd := Aside0.mk (Kd.R_below HRd.out hb)
          have HSK := Aside0.mk (HSK.out.below hb)
          have HS2 := Aside0.mk (HS2.out.below hb)
          have HB := Aside0.mk (below_step HB.out hb)
          have HX := Aside0.mk (blk_below HX.out hb)
          rw [HLA.out]
          clear hr hb hC1 hc1
          go_wp2_with fail
          (with_reducible refine (ints_rows (l := La) HCb.out HC1.out HCC.out.1.2 HL1.out HLA1.out HLA.out.symm HLA.out.symm).mono ?_)
          rintro e wh ⟨rfl, hb⟩
          have HRd := Aside0.mk (Kd.R_below HRd.out hb)
          have HSK := Aside0.mk (HSK.out.below hb)
          have HS2 := Aside0.mk (HS2.out.below hb)
          have HB := Aside0.mk (below_step HB.out hb)
          have HX := Aside0.mk (blk_below HX.out hb)
          clear hb
          have x0 := blk_cell HX.out 0
          have x1 := blk_cell HX.out 1
          have x2 := blk_cell HX.out 2
          go_wp2_with fail
          (with_reducible refine (HTR.out _ HSK.out).mono ?_)
          rintro e wg ⟨v, rfl, hr, hb⟩
          obtain ⟨A2, c2, rfl, hc2, hC2⟩ := Kd.R_reads hr
          have HC2 := Aside0.mk hC2
          have HL2 := Aside0.mk hc2
          have HCd := Aside0.mk (Kd.C_below (Kd.R_reads' HRd.out).2.2 hb)
          have HS2 := Aside0.mk (HS2.out.below hb)
          have HB := Aside0.mk (below_step HB.out hb)
          rw [HLC.out]
          clear hr hb hC2 hc2 x0 x1 x2
          go_wp2_with fail
          (with_reducible refine (ints_rows (l := Lc) HCd.out HC2.out HCC.out.2.2 HL2.out HLC1.out HLC.out.symm HLC.out.symm).mono ?_)
          rintro e wi ⟨rfl, hb⟩
          have HS2 := Aside0.mk (HS2.out.below hb)
          have HB := Aside0.mk (below_step HB.out hb)
          clear hb
          go_wp2_with fail
          (with_reducible refine (sk_len g2 base2 1 SL.nil _ HS2.out).mono ?_)
          rintro e wj ⟨rfl, rfl⟩
          go_wp2_with fail
          (with_reducible refine (sk_height g2 base2 1 SL.nil _ HS2.out).mono ?_)
          rintro e wk ⟨rfl, rfl⟩
          go_wp2
          go_ret
          exact ⟨by simp [SL.nil, SL.height], HB.out⟩
theorem SkipMemory_upto (w : World) (A0 : Option Addr) (c0 : Nat) (l0 : List (S37 × Int)) (hc0 : l0.length ≤ c0) (hr0 : Kd.C (Kd.pair k37 (Kd.int .i64)) w A0 l0.length l0) (hg0 : ∀ x ∈ l0, (x.1.f0.size ≤ maxLen ∧ (Lit.int .u64 x.1.f1).wf = true ∧ (Lit.int .i64 x.1.f2).wf = true) ∧ (Lit.int .i64 x.2).wf = true)
    (cs1 : Array Value) (x1 : (ByteArray × Int × Int)) (hK1 : (Kd.pair Kd.string (Kd.pair (Kd.int .u64) (Kd.int .i64))).K w x1 cs1.toList) (hg1 : x1.1.size ≤ maxLen ∧ (Lit.int .u64 x1.2.1).wf = true ∧ (Lit.int .i64 x1.2.2).wf = true)
    (hbulk : (sumBulk (fun x : S37 × Int => (x.1.f0.size + 1 + 1 + 1 + 1) + 1 + 1) l0 + 1) + (x1.1.size + 1 + 1 + 1 + 1) ≤ 1048576) :
    Calls Try.prog 4 #[.slice A0 l0.length c0, .agg cs1] w fun e w' => e = .returned (.bool true) ∧ Below w.heap.size w w' := by
  obtain ⟨k, s, n⟩ := x1
  have hcs := open_k3 hK1
  subst hcs
  have hlen := sumBulk_len (fun x : S37 × Int => (x.1.f0.size + 1 + 1 + 1 + 1) + 1 + 1) (fun _ => by omega) l0
  exact memory_calls A0 c0 l0 (k, s, n) w hr0 hc0 (by omega)

end Go.Proofs.Ytehfcafmdnfamaa.G
