/- Contracts of functions and plain laws, several texts of the session put together by its program. -/
import Derived.Test.YthkooncibfkepaaProg
import Derived.Below
import Derived.Deep.Draws
import Derived.Deep.AppendLies
import Derived.Maps.AppendAt
import Derived.OwnWalk
import Derived.Laws.BytesArg
import Derived.Laws.MakeOwn
import Derived.Laws.OwnMore
import Derived.Deep.OwnRows
import Derived.Tactics
import Derived.Lib.ConvBytes
import Derived.Laws.Slices
import Derived.WalkKit
import Derived.KernelRfl
import Derived.RowKit3
import Derived.Deep.LoopGhost
import Derived.Deep.QuietTactic
import Derived.BigQuiet
import Derived.WideLaws
import Derived.Deep.DeepCutAuto
import Derived.Deep.CutBlock
import Derived.Deep.RegionHeld3
import Derived.Laws.Rows
import Derived.Lib.AppendStr
import Derived.ArgAppend
import Derived.Laws.IdiomCopy
import Derived.OrdersHeld
import Derived.Laws.BitsLemmas
import Derived.RowKit
import Derived.Test.YthkooncibfkepaaWWords
import Derived.Test.YthkooncibfkepaaWLast
import Derived.Test.YthkooncibfkepaaWTab
import Derived.Test.YthkooncibfkepaaWFour
import Derived.Test.YthkooncibfkepaaWQPut
import Derived.Test.YthkooncibfkepaaWApart
import Derived.Test.YthkooncibfkepaaWArr
import Derived.Test.YthkooncibfkepaaWZeros
import Derived.Test.YthkooncibfkepaaWFoot
import Derived.Test.YthkooncibfkepaaWKept
import Derived.Test.YthkooncibfkepaaWShare
import Derived.Test.YthkooncibfkepaaWN
import Derived.Test.YthkooncibfkepaaWFootNe
import Derived.Test.YthkooncibfkepaaWAt
import Derived.Test.YthkooncibfkepaaWEqStruct
import Derived.Test.YthkooncibfkepaaWRepsOne
import Derived.Test.YthkooncibfkepaaWInv
import Derived.Test.YthkooncibfkepaaWInvWords
import Derived.Test.YthkooncibfkepaaWGuard
import Derived.Test.YthkooncibfkepaaWNEv
import Derived.Test.YthkooncibfkepaaWMore
import Derived.Test.YthkooncibfkepaaQ3
import Derived.Test.YthkooncibfkepaaQ2

/- Contracts typed by hand: the law BatchJoins: its walk -/
namespace Go.Proofs.Ythkooncibfkepaa.G
open Go.RowKit Go.Proofs.YthkooncibfkepaaW.PrintWords Go.Proofs.YthkooncibfkepaaW.PrintLast Go.Proofs.YthkooncibfkepaaW.PrintMore
attribute [local go_sem] max2_int min2_int max_two min_two max_three min_three max_four min_four
set_option linter.unusedVariables false
set_option linter.unusedSimpArgs false

/-! the law BatchJoins: its walk -/
set_option maxHeartbeats 8000000 in
set_option maxRecDepth 100000 in
theorem BatchJoins_calls (A0 : Option Addr) (c0 : Nat) (l0 : List Int) (A9 : Option Addr) (c9 : Nat) (l9 : List Int) (w : World) (hr0 : Kd.C (Kd.int .u8) w A0 l0.length l0) (hc0 : l0.length ≤ c0) (hb0 : Bytes l0) (hr9 : Kd.C (Kd.int .u8) w A9 l9.length l9) (hc9 : l9.length ≤ c9) (hb9 : Bytes l9) (hl : l0.length + l9.length ≤ 1048576) (r : List Int) (f : Int) (hrl : r.length ≤ 4398046511104) (hrf : joinR l0 l9 = (r, f)) :
    Calls Try.prog 10 #[.slice A0 l0.length c0, .slice A9 l9.length c9] w fun e w' => e = .returned (.bool true) ∧ Below w.heap.size w w' := by
  have HR := Aside0.mk hr0
  have HC := Aside0.mk hc0
  have HY := Aside0.mk hb0
  have HR9 := Aside0.mk hr9
  have HC9 := Aside0.mk hc9
  have HY9 := Aside0.mk hb9
  have HL := Aside0.mk hl
  have HL2 := Aside0.mk (show l0.length ≤ 140737488355000 by omega)
  have HL9 := Aside0.mk (show l9.length ≤ 140737488355000 by omega)
  have HRL := Aside0.mk hrl
  have HRF := Aside0.mk hrf
  have H2 := Aside0.mk (by rw [← hrf]; exact refjoin_eq l0 l9 _ hb0 (by omega) hb9 hl (Nat.le_refl _) : moraineref04_Join.f (13 + 2 * (l0.length + l9.length)) l0 l9 = some (r, f))
  clear hr0 hc0 hb0 hr9 hc9 hb9 hl hrl hrf
  go_enter Try.func10, Try.ntmps10
  go_wp2_with fail
  (with_reducible refine (morainelaw04_lent.calls _ _ l0 _ HR.out HC.out HL2.out).mono ?_)
  rintro e w0 ⟨Ai, ci, rfl, ho, hb⟩
  have HB0 := Aside0.mk hb
  have HIN := Aside0.mk (Kd.R_reads' ho)
  have HPC := Aside0.mk (show l0.length ≤ ci by have := HIN.out.2.1; omega)
  clear ho hb
  go_wp2_with fail
  (with_reducible refine (morainelaw04_lent.calls _ _ l9 _ (Kd.C_below HR9.out HB0.out) HC9.out HL9.out).mono ?_)
  rintro e w1 ⟨Aj, cj, rfl, ho, hb⟩
  have HB1 := Aside0.mk (below_step HB0.out hb)
  have HIN1 := Aside0.mk (show Kd.C (Kd.int .u8) w1 Ai (l0.length + 1) (l0 ++ [90]) from Kd.C_below (by simpa using HIN.out.2.2) hb)
  have HP1 := Aside0.mk (C_prefix (ys := [90]) HIN1.out)
  have HJN := Aside0.mk (Kd.R_reads' ho)
  have HQ1 := Aside0.mk (C_prefix (ys := [90]) (by simpa using (Kd.R_reads' ho).2.2))
  have HQC := Aside0.mk (show l9.length ≤ cj by have := HJN.out.2.1; omega)
  clear ho hb
  go_wp2_with fail
  (with_reducible refine (batch_Join_calls Ai ci l0 Aj cj l9 _ HP1.out HPC.out HY.out HQ1.out HQC.out HY9.out HL.out).mono ?_)
  rintro e w2 ⟨v2, rfl, ho, hb⟩
  rw [HRF.out] at ho ⊢
  dsimp only [] at ho ⊢
  have HA2 := Aside0.mk ho
  have HB2 := Aside0.mk (below_step HB1.out hb)
  have HN2 := Aside0.mk hb
  clear hb ho
  go_wp2_with fail
  (with_reducible refine (moraineref04_Join.calls _ A0 c0 l0 A9 c9 l9 _ _ _ (Kd.C_below HR.out HB2.out) HC.out (Kd.C_below HR9.out HB2.out) HC9.out H2.out).mono ?_)
  rintro e w3 ⟨v3, rfl, ho, hb⟩
  have HA3 := Aside0.mk ho
  have HA2 := Aside0.mk (Kd.R_below HA2.out hb)
  have HB3 := Aside0.mk (below_step HB2.out hb)
  have HN3 := Aside0.mk (below_step HN2.out hb)
  clear hb ho
  have hcv2 := own_string (P := Try.prog) Try.underlying33 Try.underlying5 Try.underlying9 (Kd.own_of_R HA2.out)
  have hcv3 := own_string (P := Try.prog) Try.underlying33 Try.underlying5 Try.underlying9 (Kd.own_of_R HA3.out)
  obtain ⟨B2, d2, rfl⟩ := Kd.R_slice HA2.out
  obtain ⟨B3, d3, rfl⟩ := Kd.R_slice HA3.out
  go_wp2_with fail
  (with_reducible refine (morainelaw04_kept.calls Ai ci l0 _ _ _ (Kd.C_below HIN1.out HN3.out) HIN.out.2.1 (Kd.C_below HR.out HB3.out) HL2.out).mono ?_)
  rintro e w4 ⟨rfl, hd⟩
  have HA2 := Aside0.mk (Kd.R_below HA2.out hd.below)
  have HN4 := Aside0.mk (below_step HN3.out hd.below)
  have HB4 := Aside0.mk (below_step HB3.out hd.below)
  clear hd hcv2 hcv3 HA3
  go_wp2_with fail
  (with_reducible refine (morainelaw04_kept.calls Aj cj l9 _ _ _ (Kd.C_below (by simpa using HJN.out.2.2) HN4.out) HJN.out.2.1 (Kd.C_below HR9.out HB4.out) HL9.out).mono ?_)
  rintro e w5 ⟨rfl, hd⟩
  have HA2 := Aside0.mk (Kd.R_below HA2.out hd.below)
  have HN5 := Aside0.mk (below_step HN4.out hd.below)
  clear hd
  go_wp2_with fail
  (with_reducible refine (morainelaw04_names.calls true _ rfl).mono ?_)
  rintro e w6 ⟨rfl, hd⟩
  have HX0 := Aside0.mk (Kd.R_below HA2.out hd.below)
  have HBN := Aside0.mk (below_step HN5.out hd.below)
  clear hd
  generalize hn : r.length = n at *
  have HN := Aside0.mk hn
  have HRL2 := HRL.out
  clear hn
  go_wp2
  go_loopw [11] (fun v11 wr => ∃ (j : Nat) (xs : List Int), v11 = .int .i64 (j : Int) ∧ j ≤ n ∧ Aside0 (xs.length = n) ∧ Aside0 (Kd.R (Kd.int .u8) 5 wr w1.heap.size (fun _ => True) (.slice B2 n d2) xs) ∧ Aside0 (Below w1.heap.size w1 wr)) (fun v11 _ => n - (intOf v11).toNat)
  case atStart => exact ⟨0, r, rfl, by omega, HN, HX0, HBN⟩
  case round =>
    obtain ⟨j, xs, rfl, hjn, HXL, HX, HB⟩ := hrel
    by_cases hlt : j < n
    · have b1 : decide ((j : Int) < (n : Int)) = true := decide_eq_true (by omega)
      have hxl := HXL.out
      obtain ⟨g, cg, eg, gb, gl, cl, HG⟩ := Kd.R_form HX.out (by omega)
      injection eg with ea en ec
      subst ea
      clear en ec
      have GB := Aside0.mk gb
      have hxx := Kd.R_celln 0 HX.out (j : Int) (by omega) (by omega)
      obtain ⟨hx, hf⟩ := hxx
      rw [Int.toNat_natCast] at hx hf
      obtain ⟨u, hu⟩ : ∃ u, rdOf 0 xs (j : Int) = u := ⟨_, rfl⟩
      rw [hu] at hx
      clear hu
      have HP := Kd.R_putg HX.out (j : Int) (IntKind.u8.wrap (u + 1))
      rw [Int.toNat_natCast] at HP
      have HP2 := Aside0.mk HP
      have ew : wrap64 ((j : Int) + 1) = ((j + 1 : Nat) : Int) := by unfold wrap64; omega
      have hxl2 : (xs.set j (IntKind.u8.wrap (u + 1))).length = n := by rw [List.length_set]; exact hxl
      have HXL2 := Aside0.mk hxl2
      clear HG gb gl HP hxl hxl2
      go_wp2_with (first | ((with_reducible refine gate_store (t := 5) (p := 67) rfl ?_); refine store_event (t := 5) (p := 67) (v := ?vo) (w1 := (wr.setCell ⟨g, j, none⟩ (.int .u8 (IntKind.u8.wrap (u + 1))))) ?hg ?ho ?hn ?hr ?_; (case ho => rfl); (case hg => rfl); (case hn => rfl); (case hr => first | (go_simp; done) | (go_simp; rfl)); intro w13 hw; have HX2 := Aside0.mk (show Kd.R (Kd.int .u8) 5 w13 w1.heap.size (fun _ => True) (.slice (some ⟨g, 0, none⟩) n d2) (xs.set j (IntKind.u8.wrap (u + 1))) by rw [hw]; exact HP2.out.1); have HG13 := Aside0.mk (show wr.grownBy w13 (some g) by rw [hw]; exact HP2.out.2); have HB13 := Aside0.mk (HB.out.grown HG13.out HB.out.size (fun k_ e_ => (Option.some.inj e_) ▸ GB.out)); clear hw))
      go_roundw
      case rel => exact ⟨j + 1, _, by go_num, by omega, HXL2, HX2, HB13⟩
      case measure => simp only [intOf]; omega
    · have b1 : decide ((j : Int) < (n : Int)) = false := decide_eq_false (by omega)
      go_wp2_with fail
      (with_reducible refine (morainelaw04_kept.calls Ai ci l0 _ _ _ (Kd.C_below HIN1.out HB.out) HIN.out.2.1 (Kd.C_below HR.out (below_step HB1.out HB.out)) HL2.out).mono ?_)
      rintro e w7 ⟨rfl, hd⟩
      have HB7 := Aside0.mk (below_step (below_step HB1.out HB.out) hd.below)
      have HBB := Aside0.mk (below_step HB.out hd.below)
      clear hd
      go_wp2_with fail
      (with_reducible refine (morainelaw04_kept.calls Aj cj l9 _ _ _ (Kd.C_below (by simpa using HJN.out.2.2) HBB.out) HJN.out.2.1 (Kd.C_below HR9.out HB7.out) HL9.out).mono ?_)
      rintro e w8 ⟨rfl, hd⟩
      have HB8 := Aside0.mk (below_step HB7.out hd.below)
      clear hd
      go_wp2
      go_ret
      exact ⟨rfl, HB8.out⟩
theorem joinR_len (a b : List Int) (ha : Bytes a) (hb : Bytes b) (hl : a.length + b.length ≤ 1048576) : (joinR a b).1.length ≤ 4398046511104 := by
  have hsa := decB_len a ha (by omega)
  have hsb := decB_len b hb (by omega)
  unfold joinR
  split
  · split
    · exact encR_len _ _ ⟨by rw [List.length_append]; omega, fun x hx => (List.mem_append.1 hx).elim (hsa.2 x) (hsb.2 x)⟩
    · simp
  · simp
theorem BatchJoins_upto (w : World) (A0 : Option Addr) (c0 : Nat) (l0 : List Int) (hc0 : l0.length ≤ c0) (hr0 : Kd.C (Kd.int .u8) w A0 l0.length l0) (hg0 : ∀ x ∈ l0, (Lit.int .u8 x).wf = true) (A1 : Option Addr) (c1 : Nat) (l1 : List Int) (hc1 : l1.length ≤ c1) (hr1 : Kd.C (Kd.int .u8) w A1 l1.length l1) (hg1 : ∀ x ∈ l1, (Lit.int .u8 x).wf = true) (hbulk : (sumBulk (fun _ : Int => 1) l0 + 1) + (sumBulk (fun _ : Int => 1) l1 + 1) ≤ 1048576) :
    Calls Try.prog 10 #[.slice A0 l0.length c0, .slice A1 l1.length c1] w fun e w' => e = .returned (.bool true) ∧ Below w.heap.size w w' := by
  have hb0 := bytes_of_wf hg0
  have hb1 := bytes_of_wf hg1
  have hlb := sumBulk_len (fun _ : Int => 1) (fun _ => Nat.le_refl _) l0
  have hlc := sumBulk_len (fun _ : Int => 1) (fun _ => Nat.le_refl _) l1
  exact BatchJoins_calls A0 c0 l0 A1 c1 l1 w hr0 hc0 hb0 hr1 hc1 hb1 (by omega) _ _ (joinR_len l0 l1 hb0 hb1 (by omega)) rfl

end Go.Proofs.Ythkooncibfkepaa.G
