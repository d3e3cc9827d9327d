/- Contracts of functions and plain laws, several texts of the session put together by its program. -/
import Derived.Test.YthkooncibfkepaaProg
import Derived.Below
import Derived.Deep.Draws
import Derived.Deep.AppendLies
import Derived.Maps.AppendAt
import Derived.OwnWalk
import Derived.Laws.BytesArg
import Derived.Laws.MakeOwn
import Derived.Laws.OwnMore
import Derived.Deep.OwnRows
import Derived.Tactics
import Derived.Lib.ConvBytes
import Derived.Laws.Slices
import Derived.WalkKit
import Derived.KernelRfl
import Derived.RowKit3
import Derived.Deep.LoopGhost
import Derived.Deep.QuietTactic
import Derived.BigQuiet
import Derived.WideLaws
import Derived.Deep.DeepCutAuto
import Derived.Deep.CutBlock
import Derived.Deep.RegionHeld3
import Derived.Laws.Rows
import Derived.Lib.AppendStr
import Derived.ArgAppend
import Derived.Laws.IdiomCopy
import Derived.OrdersHeld
import Derived.Laws.BitsLemmas
import Derived.RowKit
import Derived.Test.YthkooncibfkepaaWWords
import Derived.Test.YthkooncibfkepaaWLast
import Derived.Test.YthkooncibfkepaaWTab
import Derived.Test.YthkooncibfkepaaWFour
import Derived.Test.YthkooncibfkepaaWQPut
import Derived.Test.YthkooncibfkepaaWApart
import Derived.Test.YthkooncibfkepaaWArr
import Derived.Test.YthkooncibfkepaaWZeros
import Derived.Test.YthkooncibfkepaaWFoot
import Derived.Test.YthkooncibfkepaaWKept
import Derived.Test.YthkooncibfkepaaWShare
import Derived.Test.YthkooncibfkepaaWN
import Derived.Test.YthkooncibfkepaaWFootNe
import Derived.Test.YthkooncibfkepaaWAt
import Derived.Test.YthkooncibfkepaaWEqStruct
import Derived.Test.YthkooncibfkepaaWRepsOne
import Derived.Test.YthkooncibfkepaaWInv
import Derived.Test.YthkooncibfkepaaWInvWords
import Derived.Test.YthkooncibfkepaaWGuard
import Derived.Test.YthkooncibfkepaaWNEv
import Derived.Test.YthkooncibfkepaaWMore
import Derived.Test.YthkooncibfkepaaQ3
import Derived.Test.YthkooncibfkepaaQ2

/- Contracts typed by hand: the law BatchRenumbers: its walk -/
namespace Go.Proofs.Ythkooncibfkepaa.G
open Go.RowKit Go.Proofs.YthkooncibfkepaaW.PrintWords Go.Proofs.YthkooncibfkepaaW.PrintLast Go.Proofs.YthkooncibfkepaaW.PrintMore
attribute [local go_sem] max2_int min2_int max_two min_two max_three min_three max_four min_four
set_option linter.unusedVariables false
set_option linter.unusedSimpArgs false

/-! the law BatchRenumbers: its walk -/
set_option maxHeartbeats 8000000 in
set_option maxRecDepth 100000 in
theorem BatchRenumbers_calls (A0 : Option Addr) (c0 : Nat) (l0 : List Int) (seq : Int) (w : World) (hr0 : Kd.C (Kd.int .u8) w A0 l0.length l0) (hc0 : l0.length ≤ c0) (hb0 : Bytes l0) (hl : l0.length ≤ 1048576) (hs0 : 0 ≤ seq) (r : List Int) (f : Int) (hrl : r.length ≤ 4398046511104) (hrf : renR l0 seq = (r, f)) :
    Calls Try.prog 9 #[.slice A0 l0.length c0, .int .u64 seq] w fun e w' => e = .returned (.bool true) ∧ Below w.heap.size w w' := by
  have HR := Aside0.mk hr0
  have HC := Aside0.mk hc0
  have HY := Aside0.mk hb0
  have HL := Aside0.mk hl
  have HL2 := Aside0.mk (show l0.length ≤ 140737488355000 by omega)
  have HS := Aside0.mk hs0
  have HRL := Aside0.mk hrl
  have HRF := Aside0.mk hrf
  have H2 := Aside0.mk (by rw [← hrf]; exact refrenumber_eq l0 seq _ hb0 hl hs0 (Nat.le_refl _) : moraineref04_Renumber.f (13 + 2 * l0.length) l0 seq = some (r, f))
  clear hr0 hc0 hb0 hl hs0 hrl hrf
  go_enter Try.func9, Try.ntmps9
  go_wp2_with fail
  (with_reducible refine (morainelaw04_lent.calls _ _ l0 _ HR.out HC.out HL2.out).mono ?_)
  rintro e w1 ⟨Ai, ci, rfl, ho, hb⟩
  have HB1 := Aside0.mk hb
  have HIN := Aside0.mk (Kd.R_reads' ho)
  have HP1 := Aside0.mk (C_prefix (ys := [90]) (by simpa using (Kd.R_reads' ho).2.2))
  have HPC := Aside0.mk (show l0.length ≤ ci by have := HIN.out.2.1; omega)
  clear ho hb
  go_wp2_with fail
  (with_reducible refine (batch_Renumber_calls Ai ci l0 seq _ HP1.out HPC.out HY.out HL.out HS.out).mono ?_)
  rintro e w2 ⟨v2, rfl, ho, hb⟩
  rw [HRF.out] at ho ⊢
  dsimp only [] at ho ⊢
  have HA2 := Aside0.mk ho
  have HB2 := Aside0.mk (below_step HB1.out hb)
  have HN2 := Aside0.mk hb
  clear hb ho
  go_wp2_with fail
  (with_reducible refine (moraineref04_Renumber.calls _ A0 c0 l0 seq _ _ _ (Kd.C_below HR.out HB2.out) HC.out H2.out).mono ?_)
  rintro e w3 ⟨v3, rfl, ho, hb⟩
  have HA3 := Aside0.mk ho
  have HA2 := Aside0.mk (Kd.R_below HA2.out hb)
  have HB3 := Aside0.mk (below_step HB2.out hb)
  have HN3 := Aside0.mk (below_step HN2.out hb)
  clear hb ho
  have hcv2 := own_string (P := Try.prog) Try.underlying33 Try.underlying5 Try.underlying9 (Kd.own_of_R HA2.out)
  have hcv3 := own_string (P := Try.prog) Try.underlying33 Try.underlying5 Try.underlying9 (Kd.own_of_R HA3.out)
  obtain ⟨B2, d2, rfl⟩ := Kd.R_slice HA2.out
  obtain ⟨B3, d3, rfl⟩ := Kd.R_slice HA3.out
  go_wp2_with fail
  (with_reducible refine (morainelaw04_kept.calls Ai ci l0 _ _ _ (Kd.C_below (by simpa using HIN.out.2.2) HN3.out) HIN.out.2.1 (Kd.C_below HR.out HB3.out) HL2.out).mono ?_)
  rintro e w4 ⟨rfl, hd⟩
  have HA2 := Aside0.mk (Kd.R_below HA2.out hd.below)
  have HN4 := Aside0.mk (below_step HN3.out hd.below)
  clear hd hcv2 hcv3 HA3
  go_wp2_with fail
  (with_reducible refine (morainelaw04_names.calls true _ rfl).mono ?_)
  rintro e w5 ⟨rfl, hd⟩
  have HX0 := Aside0.mk (Kd.R_below HA2.out hd.below)
  have HBN := Aside0.mk (below_step HN4.out hd.below)
  clear hd
  generalize hn : r.length = n at *
  have HN := Aside0.mk hn
  have HRL2 := HRL.out
  clear hn
  go_wp2
  go_loopw [10] (fun v10 wr => ∃ (j : Nat) (xs : List Int), v10 = .int .i64 (j : Int) ∧ j ≤ n ∧ Aside0 (xs.length = n) ∧ Aside0 (Kd.R (Kd.int .u8) 5 wr w1.heap.size (fun _ => True) (.slice B2 n d2) xs) ∧ Aside0 (Below w1.heap.size w1 wr)) (fun v10 _ => n - (intOf v10).toNat)
  case atStart => exact ⟨0, r, rfl, by omega, HN, HX0, HBN⟩
  case round =>
    obtain ⟨j, xs, rfl, hjn, HXL, HX, HB⟩ := hrel
    by_cases hlt : j < n
    · have b1 : decide ((j : Int) < (n : Int)) = true := decide_eq_true (by omega)
      have hxl := HXL.out
      obtain ⟨g, cg, eg, gb, gl, cl, HG⟩ := Kd.R_form HX.out (by omega)
      injection eg with ea en ec
      subst ea
      clear en ec
      have GB := Aside0.mk gb
      have hxx := Kd.R_celln 0 HX.out (j : Int) (by omega) (by omega)
      obtain ⟨hx, hf⟩ := hxx
      rw [Int.toNat_natCast] at hx hf
      obtain ⟨u, hu⟩ : ∃ u, rdOf 0 xs (j : Int) = u := ⟨_, rfl⟩
      rw [hu] at hx
      clear hu
      have HP := Kd.R_putg HX.out (j : Int) (IntKind.u8.wrap (u + 1))
      rw [Int.toNat_natCast] at HP
      have HP2 := Aside0.mk HP
      have ew : wrap64 ((j : Int) + 1) = ((j + 1 : Nat) : Int) := by unfold wrap64; omega
      have hxl2 : (xs.set j (IntKind.u8.wrap (u + 1))).length = n := by rw [List.length_set]; exact hxl
      have HXL2 := Aside0.mk hxl2
      clear HG gb gl HP hxl hxl2
      go_wp2_with (first | ((with_reducible refine gate_store (t := 5) (p := 58) rfl ?_); refine store_event (t := 5) (p := 58) (v := ?vo) (w1 := (wr.setCell ⟨g, j, none⟩ (.int .u8 (IntKind.u8.wrap (u + 1))))) ?hg ?ho ?hn ?hr ?_; (case ho => rfl); (case hg => rfl); (case hn => rfl); (case hr => first | (go_simp; done) | (go_simp; rfl)); intro w13 hw; have HX2 := Aside0.mk (show Kd.R (Kd.int .u8) 5 w13 w1.heap.size (fun _ => True) (.slice (some ⟨g, 0, none⟩) n d2) (xs.set j (IntKind.u8.wrap (u + 1))) by rw [hw]; exact HP2.out.1); have HG13 := Aside0.mk (show wr.grownBy w13 (some g) by rw [hw]; exact HP2.out.2); have HB13 := Aside0.mk (HB.out.grown HG13.out HB.out.size (fun k_ e_ => (Option.some.inj e_) ▸ GB.out)); clear hw))
      go_roundw
      case rel => exact ⟨j + 1, _, by go_num, by omega, HXL2, HX2, HB13⟩
      case measure => simp only [intOf]; omega
    · have b1 : decide ((j : Int) < (n : Int)) = false := decide_eq_false (by omega)
      go_wp2_with fail
      (with_reducible refine (morainelaw04_kept.calls Ai ci l0 _ _ _ (Kd.C_below (by simpa using HIN.out.2.2) HB.out) HIN.out.2.1 (Kd.C_below HR.out (below_step HB1.out HB.out)) HL2.out).mono ?_)
      rintro e w6 ⟨rfl, hd⟩
      have HB7 := Aside0.mk (below_step (below_step HB1.out HB.out) hd.below)
      clear hd
      go_wp2
      go_ret
      exact ⟨rfl, HB7.out⟩
theorem encR_len2 (seq : Int) (l : List Op04) (hs : Sane l) : (encR seq l).1.length ≤ 4398046511104 := encR_len seq l hs
theorem renR_len (b : List Int) (seq : Int) (hb : Bytes b) (hl : b.length ≤ 1048576) : (renR b seq).1.length ≤ 4398046511104 := by
  unfold renR
  split
  · exact encR_len seq _ (decB_sane b hb hl)
  · simp
theorem BatchRenumbers_upto (w : World) (A0 : Option Addr) (c0 : Nat) (l0 : List Int) (hc0 : l0.length ≤ c0) (hr0 : Kd.C (Kd.int .u8) w A0 l0.length l0) (hg0 : ∀ x ∈ l0, (Lit.int .u8 x).wf = true) (a1 : Int) (hg1 : (Lit.int .u64 a1).wf = true) (hbulk : (sumBulk (fun _ : Int => 1) l0 + 1) + 1 ≤ 1048576) :
    Calls Try.prog 9 #[.slice A0 l0.length c0, .int .u64 a1] w fun e w' => e = .returned (.bool true) ∧ Below w.heap.size w w' := by
  have ha : 0 ≤ a1 ∧ a1 ≤ 18446744073709551615 := by simpa [Lit.wf, IntKind.min, IntKind.max, IntKind.signed, IntKind.bits] using hg1
  have hb := bytes_of_wf hg0
  have hlb := sumBulk_len (fun _ : Int => 1) (fun _ => Nat.le_refl _) l0
  exact BatchRenumbers_calls A0 c0 l0 a1 w hr0 hc0 hb (by omega) ha.1 _ _ (renR_len l0 a1 hb (by omega)) rfl

end Go.Proofs.Ythkooncibfkepaa.G
