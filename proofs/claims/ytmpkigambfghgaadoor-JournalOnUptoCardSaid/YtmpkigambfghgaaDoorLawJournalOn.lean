/- Contracts typed by hand: the law JournalOn: writers that take turns write the file that one would -/
import Derived.Test.YtmpkigambfghgaaDoorProg
import Derived.Below
import Derived.Deep.Draws
import Derived.Deep.AppendLies
import Derived.Maps.AppendAt
import Derived.OwnWalk
import Derived.Laws.BytesArg
import Derived.Laws.MakeOwn
import Derived.Laws.OwnMore
import Derived.Deep.OwnRows
import Derived.Tactics
import Derived.Lib.ConvBytes
import Derived.Laws.Slices
import Derived.WalkKit
import Derived.KernelRfl
import Derived.RowKit3
import Derived.Deep.LoopGhost
import Derived.Deep.QuietTactic
import Derived.BigQuiet
import Derived.WideLaws
import Derived.Deep.DeepCutAuto
import Derived.Deep.CutBlock
import Derived.Deep.RegionHeld3
import Derived.Laws.Rows
import Derived.Lib.AppendStr
import Derived.ArgAppend
import Derived.Laws.IdiomCopy
import Derived.OrdersHeld
import Derived.Laws.BitsLemmas
import Derived.RowKit
import Derived.Test.YtmpkigambfghgaaDoorWWords
import Derived.Test.YtmpkigambfghgaaDoorWLast
import Derived.Test.YtmpkigambfghgaaDoorWTab
import Derived.Test.YtmpkigambfghgaaDoorWFour
import Derived.Test.YtmpkigambfghgaaDoorWQPut
import Derived.Test.YtmpkigambfghgaaDoorWApart
import Derived.Test.YtmpkigambfghgaaDoorWArr
import Derived.Test.YtmpkigambfghgaaDoorWZeros
import Derived.Test.YtmpkigambfghgaaDoorWFoot
import Derived.Test.YtmpkigambfghgaaDoorWKept
import Derived.Test.YtmpkigambfghgaaDoorWShare
import Derived.Test.YtmpkigambfghgaaDoorWN
import Derived.Test.YtmpkigambfghgaaDoorWFootNe
import Derived.Test.YtmpkigambfghgaaDoorWAt
import Derived.Test.YtmpkigambfghgaaDoorWEqStruct
import Derived.Test.YtmpkigambfghgaaDoorWRepsOne
import Derived.Test.YtmpkigambfghgaaDoorWInv
import Derived.Test.YtmpkigambfghgaaDoorWInvWords
import Derived.Test.YtmpkigambfghgaaDoorWGuard
import Derived.Test.YtmpkigambfghgaaDoorWNEv
import Derived.Test.YtmpkigambfghgaaDoorWMore
import Derived.Test.YtmpkigambfghgaaDoorManWritten07b
import Derived.Test.YtmpkigambfghgaaDoorOpens
import Derived.Test.YtmpkigambfghgaaDoorGx29
namespace Go.Proofs.YtmpkigambfghgaaDoor.G
open Go.RowKit Go.Proofs.YtmpkigambfghgaaDoorW.PrintWords Go.Proofs.YtmpkigambfghgaaDoorW.PrintLast Go.Proofs.YtmpkigambfghgaaDoorW.PrintMore
attribute [local go_sem] max2_int min2_int max_two min_two max_three min_three max_four min_four
set_option linter.unusedVariables false
set_option linter.unusedSimpArgs false

/-! the law JournalOn: writers that take turns write the file that one would -/
theorem bulk_of (rs : List (List Int)) : bulk rs = sumBulk (fun l : List Int => sumBulk (fun _ : Int => 1) l + 1) rs := by
  have h : ∀ l : List Int, sumBulk (fun _ : Int => 1) l = l.length := by
    intro l
    induction l with
    | nil => rfl
    | cons x r ih => rw [sumBulk_cons, ih, List.length_cons]; omega
  induction rs with
  | nil => rfl
  | cons r rs ih =>
    rw [sumBulk_cons, ← ih, h]
    simp [bulk]
theorem byt_recs {rs : List (List Int)} (hg : ∀ x ∈ rs, ∀ y ∈ x, (Lit.int .u8 y).wf = true) : ∀ r ∈ rs, Byt r := fun r hr => byt_of_wf (hg r hr)
set_option maxHeartbeats 8000000 in
set_option maxRecDepth 100000 in
theorem on_calls (blk : Nat) (A0 : Option Addr) (c0 : Nat) (rs : List (List Int)) (hs : List (Option Addr × Nat × Nat)) (w : World) (h1 : 32 ≤ blk) (h2 : blk ≤ 32768) (hH : Heads w rs hs) (hC : hdK.C w A0 rs.length hs) (hc0 : rs.length ≤ c0) (hby : ∀ r ∈ rs, Byt r) (hbulk : bulk rs ≤ 1048576) (hT : TabAt w) :
    Calls Tryd.prog 5 #[.int .i64 (blk : Int), .slice A0 rs.length c0] w fun e w' => e = .returned (.bool true) ∧ Below w.heap.size w w' := by
  have HH := Aside0.mk hH
  have HC := Aside0.mk hC
  have HC0 := Aside0.mk hc0
  have HBY := Aside0.mk hby
  have HT := Aside0.mk hT
  have HBK := Aside0.mk hbulk
  have HHL := Aside0.mk hH.1
  have hinfo : (Tryd.prog.info? 5).map (fun i => (i.zero, i.size, i.bytes)) = some (some (.int .u8 0), 1, 1) := by kernel_rfl
  have HI := Aside0.mk hinfo
  have HV := Aside0.mk (morainelaw07_valid.calls (blk : Int) true w (by unfold morainelaw07_valid.f; rw [if_pos (by omega)]; simp; omega))
  clear hH hC hby hT hbulk hinfo hc0
  go_enter Tryd.func5, Tryd.ntmps5
  go_wp2_with fail
  (with_reducible refine HV.out.mono ?_)
  rintro e w1 ⟨rfl, hd⟩
  have HB1 := Aside0.mk hd.below
  clear hd
  go_wp2_with fail
  (with_reducible refine (written_calls blk A0 c0 rs hs _ h1 h2 (HH.out.below HB1.out) (Kd.C_below HC.out HB1.out) HC0.out HBY.out HBK.out (HT.out.below HB1.out)).mono ?_)
  rintro e w2 ⟨v0, v1, v2, rfl, hf, hE_, hk, hb⟩
  have HB2 := Aside0.mk (below_step HB1.out hb)
  have HF2 := Aside0.mk hf
  obtain ⟨A2, c2, rfl, hc2, hC2⟩ := Kd.R_reads hk
  have HK2 := Aside0.mk hC2
  have hnl := bulk_len rs
  have hnl2 : rs.length ≤ 1048576 := Nat.le_trans hnl HBK.out
  rw [HHL.out] at HK2 ⊢
  rw [HHL.out] at hc2
  have HNB := Aside0.mk (Below.refl w2.heap.size w2)
  obtain ⟨n, hn⟩ : ∃ n, rs.length = n := ⟨_, rfl⟩
  have HN := Aside0.mk hn
  rw [hn] at hnl2 HK2 hc2 ⊢
  clear hf hE_ hk hb hC2 hn hnl
  go_wp2_with fail
  go_loopw [9, 10] (fun v9 v10 wr => ∃ (k : Nat), v10 = .int .i64 (k : Int) ∧ k ≤ n ∧ Aside0 (Kd.R (Kd.int .u8) 5 wr w2.heap.size (fun _ => True) v9 (fileOf blk (rs.take k))) ∧ Aside0 (Below w2.heap.size w2 wr)) (fun _ v10 _ => n - (intOf v10).toNat)
  case atStart => exact ⟨0, rfl, by omega, ⟨Kd.R_nil _ _ _ _ _⟩, HNB⟩
  case round =>
    obtain ⟨k, rfl, hkn, HO, HB⟩ := hrel
    by_cases hlt : k < n
    · have b1 : decide ((k : Int) < (n : Int)) = true := decide_eq_true (by omega)
      have hkr : k < rs.length := by rw [HN.out]; exact hlt
      obtain ⟨ad, e1, _⟩ := hd_at HK2.out k hlt
      cases e1
      have HCELL := Aside0.mk (hdr_cell HK2.out k hlt)
      have hd2 := HH.out.2 k hkr
      have HFN := Aside0.mk (show fileOf blk (rs.take (k + 1)) = fileOf blk (rs.take k) ++ addR blk ((fileOf blk (rs.take k)).length % blk) (rec rs k) by rw [take_snoc hkr, fileOf_snoc])
      have hrl := bulk_rec hkr
      have hfl0 := fileOf_len blk h1 rs k (by omega)
      have hbt0 := bulk_take rs k
      have HRB := Aside0.mk (HBY.out (rec rs k) (List.mem_of_getElem? (rec_get hkr)))
      obtain ⟨r, hr⟩ : ∃ r, rec rs k = r := ⟨_, rfl⟩
      obtain ⟨F, hF⟩ : ∃ F, fileOf blk (rs.take k) = F := ⟨_, rfl⟩
      obtain ⟨x, hx⟩ : ∃ x, hdr hs k = x := ⟨_, rfl⟩
      rw [hx, hr] at hd2
      rw [hx] at HCELL
      rw [hr] at hrl HRB HFN
      rw [hF] at HO hfl0 HFN
      obtain ⟨B, m, dc⟩ := x
      obtain ⟨hm, hdc, hrC⟩ := hd2
      simp only [] at hm hdc hrC
      subst hm
      have HRC := Aside0.mk hrC
      have HDC := Aside0.mk hdc
      have hr1 : r.length ≤ 1048576 := by have := HBK.out; omega
      have hFl : F.length ≤ 24200000 := by have := HBK.out; omega
      obtain ⟨D, hD⟩ : ∃ D, addR blk (F.length % blk) r = D := ⟨_, rfl⟩
      have HCOST := Aside0.mk (show costR blk (F.length % blk) r.length = D.length by rw [← hD, addR_len])
      have hDl : D.length ≤ 24200000 := by rw [← hD, addR_len]; have := costR_le blk h1 (F.length % blk) r.length; omega
      rw [hD] at HFN
      have HD := Aside0.mk hD
      have HFL := Aside0.mk hFl
      have HR1 := Aside0.mk hr1
      have HDL := Aside0.mk hDl
      obtain ⟨AO, cO, rfl⟩ := Kd.R_slice HO.out
      have ew : wrap64 ((k : Int) + 1) = ((k + 1 : Nat) : Int) := by unfold wrap64; omega
      clear hrC hdc hfl0 hbt0 hrl hr hF hx hFl hD hkr hDl
      have hk1 : k ≤ 1048576 := by omega
      go_wp2_with fail
      (with_reducible refine (new_writer blk (F.length : Int) wr h1 h2 (Int.natCast_nonneg _)).mono ?_)
      rintro e w3 ⟨g, rfl, hw, hg0, hb⟩
      have HW3 := Aside0.mk hw
      have HB3 := Aside0.mk (below_step HB.out hb)
      have HO3 := Aside0.mk (Kd.R_below HO.out hb)
      have HG := Aside0.mk (Nat.le_trans HB.out.size hg0)
      have hq3 := HCELL.out w3 HB3.out
      clear hw hg0 hb
      go_wp2_with fail
      (with_reducible refine (wr_cost g blk F.length r.length w3 h1 h2 (by have := HFL.out; omega) HW3.out (by have := HR1.out; omega)).mono ?_)
      rintro e w4 ⟨rfl, hb⟩
      rw [HCOST.out]
      have HW4 := Aside0.mk (HW3.out.below hb)
      have HB4 := Aside0.mk (below_step HB3.out hb)
      have HO4 := Aside0.mk (Kd.R_below HO3.out hb)
      have hq4 := HCELL.out w4 HB4.out
      clear hb hq3
      go_wp2_with fail
      (with_reducible refine (wr_add g blk F.length B dc r w4 h1 h2 (by have := HFL.out; omega) HW4.out ((HT.out.below HB2.out).below HB4.out) (Kd.C_below (Kd.C_below HRC.out HB2.out) HB4.out) HDC.out HRB.out (by have := HR1.out; omega)).mono ?_)
      rintro e w5 ⟨vd, rfl, hdR, hw5, w4', hb4, rfl⟩
      rw [HD.out] at hdR hw5 ⊢
      have hw4' := HW4.out.below hb4
      have HB5 := Aside0.mk (below_set (v := .int .i64 ((F.length + D.length : Nat) : Int)) (j := 1) (below_step HB4.out hb4) HG.out)
      have HO5 := Aside0.mk (wr_set hw4' (Kd.R_below HO4.out hb4) (by decide) (.int .i64 ((F.length + D.length : Nat) : Int)))
      obtain ⟨AD, cD, rfl, hcD, hD2⟩ := Kd.R_reads hdR
      have HD5 := Aside0.mk hD2
      generalize hWW : w4'.setCell ⟨g, 1, none⟩ (.int .i64 ((F.length + D.length : Nat) : Int)) = W5 at *
      clear hWW hw4' hb4 hw5 hdR hD2 hcD hq4
      go_wp2_with (first
        | ((with_reducible refine gate_builtin (b := .append) (xs := #[.tmp 71, .tmp 72]) rfl ?_); at_builtin; refine Kd.R_append_rows (Kd.int .u8)  (w0 := w2) w2.heap.size rfl (.tmp 71) (.tmp 72) 22 5 (.int .u8 0) 1 rfl Tryd.underlying22 HI.out rfl (by decide) (by omega) (.slice AO F.length cO) F D _ _ _ (fun _ => True) (fun _ => False) rfl rfl ?aO ?aR (fun _ _ h => h) (fun _ h => h.elim) (fun _ _ => trivial) ?aB ?aS ?aL ?_; (case aO => exact HO5.out); (case aR => exact HD5.out); (case aB => exact HB5.out); (case aS => exact (HB5.out).size); (case aL => have := HFL.out; have := HDL.out; omega); intro v73 w6 ho hb hg hat; rw [← HFN.out] at ho; have HO6 := Aside0.mk ho; have HB6 := Aside0.mk hb; clear ho hb hg hat))
      go_roundw
      case rel => exact ⟨k + 1, by go_num, by omega, HO6, HB6⟩
      case measure => simp only [intOf]; omega
    · obtain rfl : k = n := by omega
      have b1 : decide ((k : Int) < (k : Int)) = false := decide_eq_false (by omega)
      have hr1 : rs.take k = rs := List.take_of_length_le (Nat.le_of_eq HN.out)
      rw [hr1] at HO
      have HFR := Aside0.mk (Kd.R_below HF2.out HB.out)
      have hcv1 := own_string (P := Tryd.prog) Tryd.underlying22 Tryd.underlying5 Tryd.underlying9 (Kd.own_of_R HO.out)
      have hcv2 := own_string (P := Tryd.prog) Tryd.underlying22 Tryd.underlying5 Tryd.underlying9 (Kd.own_of_R HFR.out)
      generalize fileOf blk rs = F at *
      obtain ⟨AF, cF, rfl⟩ := Kd.R_slice HFR.out
      obtain ⟨AO, cO, rfl⟩ := Kd.R_slice HO.out
      clear hr1
      go_wp2
      go_ret
      exact ⟨by simp, below_step HB2.out HB.out⟩
theorem JournalOn_upto (w : World) (x0 : Int) (hg0 : (Lit.int .i64 x0).wf = true) (A1 : Option Addr) (c1 : Nat) (l1 : List (List Int)) (hc1 : l1.length ≤ c1) (hr1 : Kd.C (Kd.slice 5 (Kd.int .u8)) w A1 l1.length l1) (hg1 : ∀ x ∈ l1, ∀ y ∈ x, (Lit.int .u8 y).wf = true)
    (hbulk : 1 + (sumBulk (fun l : List Int => sumBulk (fun _ : Int => 1) l + 1) l1 + 1) ≤ 1048576) (hTab : TabAt w) :
    Calls Tryd.prog 5 #[.int .i64 x0, .slice A1 l1.length c1] w fun e w' => e = .returned (.bool true) ∧ Below w.heap.size w w' := by
  by_cases hv : 32 ≤ x0 ∧ x0 ≤ 32768
  · obtain ⟨blk, rfl⟩ := Int.eq_ofNat_of_zero_le (show 0 ≤ x0 by omega)
    obtain ⟨hs, hH, hC⟩ := heads_of hr1
    exact on_calls blk A1 c1 l1 hs w (by omega) (by omega) hH hC hc1 (byt_recs hg1) (by rw [bulk_of]; omega) hTab
  · have HV := Aside0.mk (morainelaw07_valid.calls x0 false w (by unfold morainelaw07_valid.f; split <;> simp <;> omega))
    clear hr1 hTab hbulk hg1 hg0
    go_enter Tryd.func5, Tryd.ntmps5
    go_wp2_with fail
    (with_reducible refine HV.out.mono ?_)
    rintro e w1 ⟨rfl, hd⟩
    have HB1 := Aside0.mk hd.below
    clear hd
    go_wp2
    go_ret
    exact ⟨rfl, HB1.out⟩

end Go.Proofs.YtmpkigambfghgaaDoor.G
