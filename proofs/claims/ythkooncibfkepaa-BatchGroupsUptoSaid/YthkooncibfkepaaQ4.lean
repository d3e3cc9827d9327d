/- Contracts of functions and plain laws, several texts of the session put together by its program. -/
import Derived.Test.YthkooncibfkepaaProg
import Derived.Below
import Derived.Deep.Draws
import Derived.Deep.AppendLies
import Derived.Maps.AppendAt
import Derived.OwnWalk
import Derived.Laws.BytesArg
import Derived.Laws.MakeOwn
import Derived.Laws.OwnMore
import Derived.Deep.OwnRows
import Derived.Tactics
import Derived.Lib.ConvBytes
import Derived.Laws.Slices
import Derived.WalkKit
import Derived.KernelRfl
import Derived.RowKit3
import Derived.Deep.LoopGhost
import Derived.Deep.QuietTactic
import Derived.BigQuiet
import Derived.WideLaws
import Derived.Deep.DeepCutAuto
import Derived.Deep.CutBlock
import Derived.Deep.RegionHeld3
import Derived.Laws.Rows
import Derived.Lib.AppendStr
import Derived.ArgAppend
import Derived.Laws.IdiomCopy
import Derived.OrdersHeld
import Derived.Laws.BitsLemmas
import Derived.RowKit
import Derived.Test.YthkooncibfkepaaWWords
import Derived.Test.YthkooncibfkepaaWLast
import Derived.Test.YthkooncibfkepaaWTab
import Derived.Test.YthkooncibfkepaaWFour
import Derived.Test.YthkooncibfkepaaWQPut
import Derived.Test.YthkooncibfkepaaWApart
import Derived.Test.YthkooncibfkepaaWArr
import Derived.Test.YthkooncibfkepaaWZeros
import Derived.Test.YthkooncibfkepaaWFoot
import Derived.Test.YthkooncibfkepaaWKept
import Derived.Test.YthkooncibfkepaaWShare
import Derived.Test.YthkooncibfkepaaWN
import Derived.Test.YthkooncibfkepaaWFootNe
import Derived.Test.YthkooncibfkepaaWAt
import Derived.Test.YthkooncibfkepaaWEqStruct
import Derived.Test.YthkooncibfkepaaWRepsOne
import Derived.Test.YthkooncibfkepaaWInv
import Derived.Test.YthkooncibfkepaaWInvWords
import Derived.Test.YthkooncibfkepaaWGuard
import Derived.Test.YthkooncibfkepaaWNEv
import Derived.Test.YthkooncibfkepaaWMore
import Derived.Test.YthkooncibfkepaaQ3

/- Contracts typed by hand: the law BatchGroups: joined batches -/
namespace Go.Proofs.Ythkooncibfkepaa.G
open Go.RowKit Go.Proofs.YthkooncibfkepaaW.PrintWords Go.Proofs.YthkooncibfkepaaW.PrintLast Go.Proofs.YthkooncibfkepaaW.PrintMore
attribute [local go_sem] max2_int min2_int max_two min_two max_three min_three max_four min_four
set_option linter.unusedVariables false
set_option linter.unusedSimpArgs false

/-! the law BatchGroups: joined batches -/
theorem Encode_calls2 (a0 : Int) (h0 : 0 ≤ a0) (A1 : Option Addr) (c1 : Nat) (l1 : List Op04) (hs : Sane l1) (X : List Int) (e : Int) (he : encR a0 l1 = (X, e)) (w : World) (hr1 : Kd.C k65 w A1 l1.length l1) (hc1 : l1.length ≤ c1) :
    Calls Try.prog 21 #[.int .u64 a0, .slice A1 l1.length c1] w fun e' w' => ∃ v0_ : Value, e' = .returned (.tuple #[v0_, .int .i64 e]) ∧ Kd.R (Kd.int .u8) 5 w' w.heap.size (fun _ => True) v0_ X ∧ Below w.heap.size w w' := by
  have h := encode_eq (11 + l1.length) a0 l1 h0 hs (Nat.le_refl _)
  rw [he] at h
  exact batch_Encode.calls _ a0 A1 c1 l1 X e w hr1 hc1 h
theorem enc_two {s : Int} {l : List Op04} {X : List Int} (h : encR s l = (X, 0)) : X = encB s l ∧ X.length ≤ 1048576 ∧ Bytes X ∧ (∀ x ∈ l, mayB x = true) ∧ l.length ≤ 4096 := by
  have hz : (encR s l).2 = 0 := by rw [h]
  have h2 := (encR_ok hz).2.2
  have h3 := encR_short s l hz
  rw [h] at h2 h3
  have h4 := chk_ok (encR_ok hz).1
  exact ⟨congrArg Prod.fst h2, h3.1, h3.2, h4.2.2.1, h4.2.1⟩
theorem join_two {s t : Int} {l m : List Op04} {X Y : List Int} (h : encR s l = (X, 0)) (g : encR t m = (Y, 0)) (h0 : 0 ≤ s) (h1 : s < 18446744073709551616) (g0 : 0 ≤ t) (g1 : t < 18446744073709551616) : joinR X Y = encR s (l ++ m) := by
  rw [(enc_two h).1, (enc_two g).1]
  exact join_enc s t l m h0 h1 (by rw [h]) g0 g1 (by rw [g])
theorem err_may {s : Int} {l : List Op04} {X : List Int} {e : Int} (h : encR s l = (X, e)) (hm : ∀ x ∈ l, mayB x = true) : e = 0 ∨ e = 3 ∨ e = 42 := by
  have := encR_may (s := s) hm
  rw [h] at this
  exact this
theorem may_app {a b : List Op04} (h : ∀ x ∈ a, mayB x = true) (g : ∀ x ∈ b, mayB x = true) : ∀ x ∈ a ++ b, mayB x = true := fun x hx => (List.mem_append.1 hx).elim (h x) (g x)
set_option maxHeartbeats 16000000 in
set_option maxRecDepth 100000 in
theorem groups_calls (a0 : Int) (h0 : 0 ≤ a0) (h64 : a0 < 18446744073709551616) (A1 : Option Addr) (c1 : Nat) (l1 : List Op04) (hc1 : l1.length ≤ c1) (A2 : Option Addr) (c2 : Nat) (l2 : List Op04) (hc2 : l2.length ≤ c2) (A3 : Option Addr) (c3 : Nat) (l3 : List Op04) (hc3 : l3.length ≤ c3) (w : World) (hr1 : Kd.C k65 w A1 l1.length l1) (hr2 : Kd.C k65 w A2 l2.length l2) (hr3 : Kd.C k65 w A3 l3.length l3) (hs1 : Sane l1) (hs2 : Sane l2) (hs3 : Sane l3) :
    Calls Try.prog 11 #[.int .u64 a0, .slice A1 l1.length c1, .agg #[.slice A2 l2.length c2, .slice A3 l3.length c3]] w fun e w' => e = .returned (.bool true) ∧ Below w.heap.size w w' := by
  have HC1 := Aside0.mk hc1
  have HC2 := Aside0.mk hc2
  have HC3 := Aside0.mk hc3
  have H0 := Aside0.mk h0
  have H64 := Aside0.mk h64
  have HS1 := Aside0.mk hs1
  have HS2 := Aside0.mk hs2
  have HS3 := Aside0.mk hs3
  obtain ⟨⟨X, e⟩, hX⟩ : ∃ p, encR a0 l1 = p := ⟨_, rfl⟩
  obtain ⟨⟨Y, f⟩, hY⟩ : ∃ p, encR 1 l2 = p := ⟨_, rfl⟩
  obtain ⟨⟨Z, g⟩, hZ⟩ : ∃ p, encR 2 l3 = p := ⟨_, rfl⟩
  have HX := Aside0.mk hX
  have HY := Aside0.mk hY
  have HZ := Aside0.mk hZ
  have HB := Aside0.mk (below_alloc (Below.refl w.heap.size w) (.cells #[.slice A2 l2.length c2, .slice A3 l3.length c3] 78))
  have HR1 := Aside0.mk (Kd.C_below hr1 HB.out)
  have HR2 := Aside0.mk (Kd.C_below hr2 HB.out)
  have HR3 := Aside0.mk (Kd.C_below hr3 HB.out)
  have hinfo := info65
  have HI := Aside0.mk hinfo
  clear hc1 hc2 hc3 hr1 hr2 hr3 h0 h64 hs1 hs2 hs3 hX hY hZ hinfo
  go_enter Try.func11, Try.ntmps11
  go_wp2_with fail
  go_quiet (fail)
  obtain ⟨W0, hW0⟩ : ∃ W0, (w.alloc (.cells #[.slice A2 l2.length c2, .slice A3 l3.length c3] 78)).drewN nq = W0 := ⟨_, rfl⟩
  have HR1 := Aside0.mk (show Kd.C k65 W0 A1 l1.length l1 by rw [← hW0]; exact Kd.C_drewN HR1.out nq)
  have HR2 := Aside0.mk (show Kd.C k65 W0 A2 l2.length l2 by rw [← hW0]; exact Kd.C_drewN HR2.out nq)
  have HR3 := Aside0.mk (show Kd.C k65 W0 A3 l3.length l3 by rw [← hW0]; exact Kd.C_drewN HR3.out nq)
  have HB := Aside0.mk (show Below w.heap.size w W0 by rw [← hW0]; exact pw_below_drewN HB.out nq)
  rw [hW0]
  clear hW0
  go_wp2_with fail
  (with_reducible refine (morainelaw04_works.calls 13 true _ (works_true 13 (Nat.le_refl _))).mono ?_)
  rintro e_ w1 ⟨rfl, hb⟩
  have HR1 := Aside0.mk (Kd.C_below HR1.out hb)
  have HR2 := Aside0.mk (Kd.C_below HR2.out hb)
  have HR3 := Aside0.mk (Kd.C_below HR3.out hb)
  have HB := Aside0.mk (below_step HB.out hb)
  clear hb
  go_wp2_with fail
  (with_reducible refine (Encode_calls2 a0 H0.out A1 c1 l1 HS1.out _ _ HX.out _ HR1.out HC1.out).mono ?_)
  rintro e_ w2 ⟨vx, rfl, ho, hb⟩
  have HR1 := Aside0.mk (Kd.C_below HR1.out hb)
  have HR2 := Aside0.mk (Kd.C_below HR2.out hb)
  have HR3 := Aside0.mk (Kd.C_below HR3.out hb)
  obtain ⟨Ax, cx, rfl, hl, hC⟩ := Kd.R_reads ho
  have HCx := Aside0.mk hC
  have HLx := Aside0.mk hl
  clear ho hl hC
  have HB := Aside0.mk (below_step HB.out hb)
  clear hb
  go_wp2_with fail
  (with_reducible refine (Encode_calls2 1 (by decide) A2 c2 l2 HS2.out _ _ HY.out _ HR2.out HC2.out).mono ?_)
  rintro e_ w3 ⟨vy, rfl, ho, hb⟩
  have HR1 := Aside0.mk (Kd.C_below HR1.out hb)
  have HR2 := Aside0.mk (Kd.C_below HR2.out hb)
  have HR3 := Aside0.mk (Kd.C_below HR3.out hb)
  have HCx := Aside0.mk (Kd.C_below HCx.out hb)
  obtain ⟨Ay, cy, rfl, hl, hC⟩ := Kd.R_reads ho
  have HCy := Aside0.mk hC
  have HLy := Aside0.mk hl
  clear ho hl hC
  have HB := Aside0.mk (below_step HB.out hb)
  clear hb
  go_wp2_with fail
  (with_reducible refine (Encode_calls2 2 (by decide) A3 c3 l3 HS3.out _ _ HZ.out _ HR3.out HC3.out).mono ?_)
  rintro e_ w4 ⟨vz, rfl, ho, hb⟩
  have HR1 := Aside0.mk (Kd.C_below HR1.out hb)
  have HR2 := Aside0.mk (Kd.C_below HR2.out hb)
  have HR3 := Aside0.mk (Kd.C_below HR3.out hb)
  have HCx := Aside0.mk (Kd.C_below HCx.out hb)
  have HCy := Aside0.mk (Kd.C_below HCy.out hb)
  obtain ⟨Az, cz, rfl, hl, hC⟩ := Kd.R_reads ho
  have HCz := Aside0.mk hC
  have HLz := Aside0.mk hl
  clear ho hl hC
  have HB := Aside0.mk (below_step HB.out hb)
  clear hb
  by_cases he : e = 0
  rotate_left
  · have b1 : (e == 0) = false := by simpa using he
    have b2 : (e != 0) = true := by simpa using he
    clear he
    go_wp2
    go_ret
    exact ⟨rfl, HB.out⟩
  subst he
  by_cases hf : f = 0
  rotate_left
  · have b1 : (f == 0) = false := by simpa using hf
    have b2 : (f != 0) = true := by simpa using hf
    clear hf
    go_wp2
    go_ret
    exact ⟨rfl, HB.out⟩
  subst hf
  by_cases hg : g = 0
  rotate_left
  · have b1 : (g == 0) = false := by simpa using hg
    have b2 : (g != 0) = true := by simpa using hg
    clear hg
    go_wp2
    go_ret
    exact ⟨rfl, HB.out⟩
  subst hg
  have HPX := Aside0.mk (enc_two HX.out)
  have HPY := Aside0.mk (enc_two HY.out)
  have HPZ := Aside0.mk (enc_two HZ.out)
  obtain ⟨⟨XY, e⟩, hXY⟩ : ∃ p, encR a0 (l1 ++ l2) = p := ⟨_, rfl⟩
  obtain ⟨⟨YZ, f⟩, hYZ⟩ : ∃ p, encR 1 (l2 ++ l3) = p := ⟨_, rfl⟩
  have HXY := Aside0.mk hXY
  have HYZ := Aside0.mk hYZ
  have HJ1 := Aside0.mk ((join_two HX.out HY.out H0.out H64.out (by decide) (by decide)).trans hXY)
  have HJ2 := Aside0.mk ((join_two HY.out HZ.out (by decide) (by decide) (by decide) (by decide)).trans hYZ)
  clear hXY hYZ
  go_wp2_with fail
  (with_reducible refine (batch_Join_calls2 Ax cx X Ay cy Y _ HCx.out HLx.out HPX.out.2.2.1 HPX.out.2.1 HCy.out HLy.out HPY.out.2.2.1 HPY.out.2.1 _ HJ1.out).mono ?_)
  rintro e_ w5 ⟨vs, rfl, ho, hb⟩
  have HR1 := Aside0.mk (Kd.C_below HR1.out hb)
  have HR2 := Aside0.mk (Kd.C_below HR2.out hb)
  have HR3 := Aside0.mk (Kd.C_below HR3.out hb)
  have HCx := Aside0.mk (Kd.C_below HCx.out hb)
  have HCy := Aside0.mk (Kd.C_below HCy.out hb)
  have HCz := Aside0.mk (Kd.C_below HCz.out hb)
  obtain ⟨As, cs, rfl, hl, hC⟩ := Kd.R_reads ho
  have HCs := Aside0.mk hC
  have HLs := Aside0.mk hl
  clear ho hl hC
  have HB := Aside0.mk (below_step HB.out hb)
  clear hb
  go_wp2_with fail
  (with_reducible refine (batch_Join_calls2 Ay cy Y Az cz Z _ HCy.out HLy.out HPY.out.2.2.1 HPY.out.2.1 HCz.out HLz.out HPZ.out.2.2.1 HPZ.out.2.1 _ HJ2.out).mono ?_)
  rintro e_ w6 ⟨vt, rfl, ho, hb⟩
  have HR1 := Aside0.mk (Kd.C_below HR1.out hb)
  have HR2 := Aside0.mk (Kd.C_below HR2.out hb)
  have HR3 := Aside0.mk (Kd.C_below HR3.out hb)
  have HCx := Aside0.mk (Kd.C_below HCx.out hb)
  have HCy := Aside0.mk (Kd.C_below HCy.out hb)
  have HCz := Aside0.mk (Kd.C_below HCz.out hb)
  have HCs := Aside0.mk (Kd.C_below HCs.out hb)
  obtain ⟨At, ct, rfl, hl, hC⟩ := Kd.R_reads ho
  have HCt := Aside0.mk hC
  have HLt := Aside0.mk hl
  clear ho hl hC
  have HB := Aside0.mk (below_step HB.out hb)
  clear hb
  have hp := err_may HXY.out (may_app HPX.out.2.2.2.1 HPY.out.2.2.2.1)
  have hq := err_may HYZ.out (may_app HPY.out.2.2.2.1 HPZ.out.2.2.2.1)
  have hsplit : (e = 0 ∧ f = 0) ∨ ((e = 3 ∨ e = 42) ∧ (f = 0 ∨ f = 3 ∨ f = 42)) ∨ (e = 0 ∧ (f = 3 ∨ f = 42)) := by omega
  clear hp hq
  rcases hsplit with ⟨rfl, rfl⟩ | ⟨rfl | rfl, rfl | rfl | rfl⟩ | ⟨rfl, rfl | rfl⟩
  rotate_left
  iterate 8
    · go_wp2
      go_ret
      exact ⟨rfl, HB.out⟩
  have HPS := Aside0.mk (enc_two HXY.out)
  have HPT := Aside0.mk (enc_two HYZ.out)
  obtain ⟨⟨L, e⟩, hL⟩ : ∃ p, encR a0 ((l1 ++ l2) ++ l3) = p := ⟨_, rfl⟩
  have HLL := Aside0.mk hL
  have HJ3 := Aside0.mk ((join_two HXY.out HZ.out H0.out H64.out (by decide) (by decide)).trans hL)
  have HJ4 := Aside0.mk (show joinR X YZ = (L, e) from (join_two HX.out HYZ.out H0.out H64.out (by decide) (by decide)).trans (by rw [← List.append_assoc]; exact hL))
  clear hL
  go_wp2_with fail
  (with_reducible refine (batch_Join_calls2 As cs XY Az cz Z _ HCs.out HLs.out HPS.out.2.2.1 HPS.out.2.1 HCz.out HLz.out HPZ.out.2.2.1 HPZ.out.2.1 _ HJ3.out).mono ?_)
  rintro e_ w7 ⟨vl, rfl, ho, hb⟩
  have HR1 := Aside0.mk (Kd.C_below HR1.out hb)
  have HR2 := Aside0.mk (Kd.C_below HR2.out hb)
  have HR3 := Aside0.mk (Kd.C_below HR3.out hb)
  have HCx := Aside0.mk (Kd.C_below HCx.out hb)
  have HCy := Aside0.mk (Kd.C_below HCy.out hb)
  have HCz := Aside0.mk (Kd.C_below HCz.out hb)
  have HCs := Aside0.mk (Kd.C_below HCs.out hb)
  have HCt := Aside0.mk (Kd.C_below HCt.out hb)
  obtain ⟨Al, cl, rfl, hl, hC⟩ := Kd.R_reads ho
  have HCl := Aside0.mk hC
  have HLl := Aside0.mk hl
  clear ho hl hC
  have HB := Aside0.mk (below_step HB.out hb)
  clear hb
  go_wp2_with fail
  (with_reducible refine (batch_Join_calls2 Ax cx X At ct YZ _ HCx.out HLx.out HPX.out.2.2.1 HPX.out.2.1 HCt.out HLt.out HPT.out.2.2.1 HPT.out.2.1 _ HJ4.out).mono ?_)
  rintro e_ w8 ⟨vr, rfl, ho, hb⟩
  have HR1 := Aside0.mk (Kd.C_below HR1.out hb)
  have HR2 := Aside0.mk (Kd.C_below HR2.out hb)
  have HR3 := Aside0.mk (Kd.C_below HR3.out hb)
  have HCx := Aside0.mk (Kd.C_below HCx.out hb)
  have HCy := Aside0.mk (Kd.C_below HCy.out hb)
  have HCz := Aside0.mk (Kd.C_below HCz.out hb)
  have HCs := Aside0.mk (Kd.C_below HCs.out hb)
  have HCt := Aside0.mk (Kd.C_below HCt.out hb)
  have HCl := Aside0.mk (Kd.C_below HCl.out hb)
  obtain ⟨Ar, cr, rfl, hl, hC⟩ := Kd.R_reads ho
  have HCr := Aside0.mk hC
  have HLr := Aside0.mk hl
  clear ho hl hC
  have HB := Aside0.mk (below_step HB.out hb)
  clear hb
  have hcvl := Kd.C_string (P := Try.prog) (A := Al) (c := cl) Try.underlying33 Try.underlying5 Try.underlying9 HCl.out
  have hcvr := Kd.C_string (P := Try.prog) (A := Ar) (c := cr) Try.underlying33 Try.underlying5 Try.underlying9 HCr.out
  obtain ⟨sL, hsL⟩ : ∃ sL, strOfNums L = sL := ⟨_, rfl⟩
  rw [hsL] at hcvl hcvr
  clear hsL
  by_cases he : e = 0
  rotate_left
  · have hp := err_may HLL.out (may_app (may_app HPX.out.2.2.2.1 HPY.out.2.2.2.1) HPZ.out.2.2.2.1)
    rcases hp with rfl | rfl | rfl
    · exact absurd rfl he
    all_goals
      clear he
      go_wp2
      go_ret
      exact ⟨rfl, HB.out⟩
  subst he
  have HPL := Aside0.mk (enc_two HLL.out)
  have HDL := Aside0.mk (show decB L = (a0, (l1 ++ l2) ++ l3, 0) by rw [HPL.out.1]; exact decB_put a0 _ H0.out H64.out (by rw [HLL.out]))
  go_wp2_with fail
  (with_reducible refine (batch_Decode_calls' Al cl L _ _ HCl.out HLl.out HPL.out.2.2.1 HPL.out.2.1 HDL.out).mono ?_)
  rintro e_ w9 ⟨vd, rfl, ho, hb⟩
  have HR1 := Aside0.mk (Kd.C_below HR1.out hb)
  have HR2 := Aside0.mk (Kd.C_below HR2.out hb)
  have HR3 := Aside0.mk (Kd.C_below HR3.out hb)
  have HCx := Aside0.mk (Kd.C_below HCx.out hb)
  have HCy := Aside0.mk (Kd.C_below HCy.out hb)
  have HCz := Aside0.mk (Kd.C_below HCz.out hb)
  have HCs := Aside0.mk (Kd.C_below HCs.out hb)
  have HCt := Aside0.mk (Kd.C_below HCt.out hb)
  have HCl := Aside0.mk (Kd.C_below HCl.out hb)
  have HCr := Aside0.mk (Kd.C_below HCr.out hb)
  obtain ⟨Ad, cd, rfl, hl, hC⟩ := Kd.R_reads ho
  have HCd := Aside0.mk hC
  have HLd := Aside0.mk hl
  clear ho hl hC hcvl hcvr
  have HB := Aside0.mk (below_step HB.out hb)
  clear hb
  have HBW := Aside0.mk (Below.refl w9.heap.size w9)
  have HAL := Aside0.mk (show ((l1 ++ l2) ++ l3).length ≤ 4096 from HPL.out.2.2.2.2)
  have HAL2 := HAL.out
  rw [List.length_append, List.length_append] at HAL2
  have HA2 := Aside0.mk HAL2
  clear HAL2
  go_wp2_with (first
    | ((with_reducible refine gate_dst (N := 122) rfl ?_); (refine gate_guard (by rfl) ?_; dsimp only); refine Kd.R_lit k65 (w0 := w9) w9.heap.size 65 ?hg (N := 122) ?hd (xs := ([] : List Op04)) (inner := []) (ok := fun _ => True) (okp := fun _ => True) ?hr ?hp (fun _ hk => hk) trivial ?hB ?hS (by simp) ?_; (case hd => rfl); (case hg => rfl); (case hr => first | (go_simp; done) | (go_simp; rfl)); (case hp => exact (Reps.none _ _)); (case hB => exact HBW.out); (case hS => exact HBW.out.size); intro v122 wa ho hb hg hnew; have HOa := Aside0.mk ho; have HBa := Aside0.mk hb; clear ho hb hg hnew)
    | ((with_reducible refine gate_builtin (b := .append) (xs := #[.tmp 122, .tmp 123]) rfl ?_); (refine gate_guard (by rfl) ?_; dsimp only); at_builtin; refine Kd.R_append_rows k65  (w0 := w9) w9.heap.size rfl (.tmp 122) (.tmp 123) 22 65 (.agg #[(.int .i64 0), (.string ⟨#[]⟩), (.string ⟨#[]⟩)]) 40 rfl Try.underlying22 HI.out rfl (by decide) (by omega) v122 [] l1 _ _ _ (fun _ => True) (fun _ => False) rfl rfl ?aO ?aR (fun _ _ h => h) (fun _ h => h.elim) (fun _ _ => trivial) ?aB ?aS ?aL ?_; (case aO => exact HOa.out); (case aR => exact (Kd.C_below HR1.out HBa.out)); (case aB => exact HBa.out); (case aS => exact (HBa.out).size); (case aL => have := HA2.out; simp; omega); intro v124 wb ho hb hg hat; have HOb := Aside0.mk ho; have HBb := Aside0.mk hb; clear ho hb hg hat)
    | ((with_reducible refine gate_builtin (b := .append) (xs := #[.tmp 124, .tmp 125]) rfl ?_); (refine gate_guard (by rfl) ?_; dsimp only); at_builtin; refine Kd.R_append_rows k65  (w0 := w9) w9.heap.size rfl (.tmp 124) (.tmp 125) 22 65 (.agg #[(.int .i64 0), (.string ⟨#[]⟩), (.string ⟨#[]⟩)]) 40 rfl Try.underlying22 HI.out rfl (by decide) (by omega) v124 ([] ++ l1) l2 _ _ _ (fun _ => True) (fun _ => False) rfl rfl ?aO ?aR (fun _ _ h => h) (fun _ h => h.elim) (fun _ _ => trivial) ?aB ?aS ?aL ?_; (case aO => exact HOb.out); (case aR => exact (Kd.C_below HR2.out HBb.out)); (case aB => exact HBb.out); (case aS => exact (HBb.out).size); (case aL => have := HA2.out; simp; omega); intro v126 wc ho hb hg hat; have HOc := Aside0.mk ho; have HBc := Aside0.mk hb; clear ho hb hg hat)
    | ((with_reducible refine gate_builtin (b := .append) (xs := #[.tmp 126, .tmp 127]) rfl ?_); (refine gate_guard (by rfl) ?_; dsimp only); at_builtin; refine Kd.R_append_rows k65  (w0 := w9) w9.heap.size rfl (.tmp 126) (.tmp 127) 22 65 (.agg #[(.int .i64 0), (.string ⟨#[]⟩), (.string ⟨#[]⟩)]) 40 rfl Try.underlying22 HI.out rfl (by decide) (by omega) v126 (([] ++ l1) ++ l2) l3 _ _ _ (fun _ => True) (fun _ => False) rfl rfl ?aO ?aR (fun _ _ h => h) (fun _ h => h.elim) (fun _ _ => trivial) ?aB ?aS ?aL ?_; (case aO => exact HOc.out); (case aR => exact (Kd.C_below HR3.out HBc.out)); (case aB => exact HBc.out); (case aS => exact (HBc.out).size); (case aL => have := HA2.out; simp; omega); intro v128 wd ho hb hg hat; have HOd := Aside0.mk (show Kd.R k65 65 wd w9.heap.size (fun _ => True) v128 ((l1 ++ l2) ++ l3) by rw [List.nil_append] at ho; exact ho); have HBd := Aside0.mk hb; clear ho hb hg hat))
  obtain ⟨Ae, ce, rfl, hl, hC⟩ := Kd.R_reads HOd.out
  have HCe := Aside0.mk hC
  have HLe := Aside0.mk hl
  clear hl hC
  have HSAME := Aside0.mk (fun W (hW : Below w9.heap.size w9 W) (h1 : Kd.C k65 W Ae ((l1 ++ l2) ++ l3).length ((l1 ++ l2) ++ l3)) => morainelaw04_same.calls _ Ad cd ((l1 ++ l2) ++ l3) Ae ce ((l1 ++ l2) ++ l3) _ W (Kd.C_below HCd.out hW) HLd.out h1 HLe.out (same_self ((l1 ++ l2) ++ l3) (by have := HAL.out; omega)))
  have hSA := HSAME.out _ HBd.out HCe.out
  simp only [List.length_append, Nat.add_assoc] at hSA ⊢
  have HSA := Aside0.mk hSA
  clear hSA
  go_wp2_with fail
  (with_reducible refine HSA.out.mono ?_)
  rintro e_ wz ⟨rfl, hd⟩
  have HBz := Aside0.mk (below_step HB.out (below_step HBd.out hd.below))
  clear hd
  go_wp2
  go_ret
  exact ⟨rfl, HBz.out⟩
theorem BatchGroups_upto (w : World) (a0 : Int) (hg0 : (Lit.int .u64 a0).wf = true) (A1 : Option Addr) (c1 : Nat) (l1 : List S65) (hc1 : l1.length ≤ c1) (hr1 : Kd.C k65 w A1 l1.length l1) (hg1 : ∀ x ∈ l1, (Lit.int .i64 x.f0).wf = true ∧ x.f1.size ≤ maxLen ∧ x.f2.size ≤ maxLen)
    (cs2 : Array Value) (x2 : List S65 × List S65) (hK2 : (Kd.pair (Kd.slice 65 k65) (Kd.slice 65 k65)).K w x2 cs2.toList) (hg2 : (∀ x ∈ x2.1, (Lit.int .i64 x.f0).wf = true ∧ x.f1.size ≤ maxLen ∧ x.f2.size ≤ maxLen) ∧ ∀ x ∈ x2.2, (Lit.int .i64 x.f0).wf = true ∧ x.f1.size ≤ maxLen ∧ x.f2.size ≤ maxLen)
    (hbulk : 1 + (sumBulk (fun x : S65 => 1 + (x.f1.size + 1) + (x.f2.size + 1) + 1) l1 + 1) + ((sumBulk (fun x : S65 => 1 + (x.f1.size + 1) + (x.f2.size + 1) + 1) x2.1 + 1) + (sumBulk (fun x : S65 => 1 + (x.f1.size + 1) + (x.f2.size + 1) + 1) x2.2 + 1) + 1) ≤ 1048576) :
    Calls Try.prog 11 #[.int .u64 a0, .slice A1 l1.length c1, .agg cs2] w fun e w' => e = .returned (.bool true) ∧ Below w.heap.size w w' := by
  obtain ⟨ca, cb, hcs, ⟨A2, c2, hl2, hc2, hC2⟩, A3, c3, hl3, hc3, hC3⟩ := hK2
  have e3 : cs2 = #[.slice A2 x2.1.length c2, .slice A3 x2.2.length c3] := by
    apply Array.toList_inj.1
    rw [hcs, hl2, hl3]
    rfl
  subst e3
  have h0 : 0 ≤ a0 ∧ a0 ≤ 18446744073709551615 := by simpa [Lit.wf, IntKind.min, IntKind.max, IntKind.signed, IntKind.bits] using hg0
  exact groups_calls a0 h0.1 (by omega) A1 c1 l1 hc1 A2 c2 x2.1 hc2 A3 c3 x2.2 hc3 w hr1 hC2 hC3 (sane_of_bulk (by omega)) (sane_of_bulk (by omega)) (sane_of_bulk (by omega))

end Go.Proofs.Ythkooncibfkepaa.G
