/- Contracts typed by hand: journal: the law's function written -/
import Derived.Test.YtmpkigambfghgaaDoorProg
import Derived.Below
import Derived.Deep.Draws
import Derived.Deep.AppendLies
import Derived.Maps.AppendAt
import Derived.OwnWalk
import Derived.Laws.BytesArg
import Derived.Laws.MakeOwn
import Derived.Laws.OwnMore
import Derived.Deep.OwnRows
import Derived.Tactics
import Derived.Lib.ConvBytes
import Derived.Laws.Slices
import Derived.WalkKit
import Derived.KernelRfl
import Derived.RowKit3
import Derived.Deep.LoopGhost
import Derived.Deep.QuietTactic
import Derived.BigQuiet
import Derived.WideLaws
import Derived.Deep.DeepCutAuto
import Derived.Deep.CutBlock
import Derived.Deep.RegionHeld3
import Derived.Laws.Rows
import Derived.Lib.AppendStr
import Derived.ArgAppend
import Derived.Laws.IdiomCopy
import Derived.OrdersHeld
import Derived.Laws.BitsLemmas
import Derived.RowKit
import Derived.Test.YtmpkigambfghgaaDoorWWords
import Derived.Test.YtmpkigambfghgaaDoorWLast
import Derived.Test.YtmpkigambfghgaaDoorWTab
import Derived.Test.YtmpkigambfghgaaDoorWFour
import Derived.Test.YtmpkigambfghgaaDoorWQPut
import Derived.Test.YtmpkigambfghgaaDoorWApart
import Derived.Test.YtmpkigambfghgaaDoorWArr
import Derived.Test.YtmpkigambfghgaaDoorWZeros
import Derived.Test.YtmpkigambfghgaaDoorWFoot
import Derived.Test.YtmpkigambfghgaaDoorWKept
import Derived.Test.YtmpkigambfghgaaDoorWShare
import Derived.Test.YtmpkigambfghgaaDoorWN
import Derived.Test.YtmpkigambfghgaaDoorWFootNe
import Derived.Test.YtmpkigambfghgaaDoorWAt
import Derived.Test.YtmpkigambfghgaaDoorWEqStruct
import Derived.Test.YtmpkigambfghgaaDoorWRepsOne
import Derived.Test.YtmpkigambfghgaaDoorWInv
import Derived.Test.YtmpkigambfghgaaDoorWInvWords
import Derived.Test.YtmpkigambfghgaaDoorWGuard
import Derived.Test.YtmpkigambfghgaaDoorWNEv
import Derived.Test.YtmpkigambfghgaaDoorWMore
import Derived.Test.YtmpkigambfghgaaDoorManWritten07
namespace Go.Proofs.YtmpkigambfghgaaDoor.G
open Go.RowKit Go.Proofs.YtmpkigambfghgaaDoorW.PrintWords Go.Proofs.YtmpkigambfghgaaDoorW.PrintLast Go.Proofs.YtmpkigambfghgaaDoorW.PrintMore
attribute [local go_sem] max2_int min2_int max_two min_two max_three min_three max_four min_four
set_option linter.unusedVariables false
set_option linter.unusedSimpArgs false

/-! journal: the law's function written -/
theorem wr_grown {W w1 : World} {g : Nat} {blk s : Int} {α : Type} {d : Kd α} {e b : Nat} {ok : Nat → Prop} {v : Value} {xs : List α} (h : WrAt W g blk s) (hv : d.R e W b ok v xs) (ht : e ≠ 25) (hg : W.grownBy w1 v.ownBlock) : WrAt w1 g blk s :=
  (hg.block g (blk_lt h) (Kd.R_ne hv h ht)).trans h
theorem wr_set {W : World} {g : Nat} {blk s : Int} {α : Type} {d : Kd α} {e b : Nat} {ok : Nat → Prop} {v : Value} {xs : List α} (h : WrAt W g blk s) (hv : d.R e W b ok v xs) (ht : ∀ q, q ∈ e :: d.E → q ≠ 25) (u : Value) : d.R e (W.setCell ⟨g, 1, none⟩ u) b ok v xs := Kd.R_set hv h ht 1 u
/-- a record's header, in whatever later world -/
theorem hdr_cell {w : World} {ad : Addr} {n : Nat} {hs : List (Option Addr × Nat × Nat)} (h : hdK.C w (some ad) n hs) (i : Nat) (hi : i < n) (W : World) (hb : Below w.heap.size w W) : W.cell? (ad.add i) = some (.slice (hdr hs i).1 (hdr hs i).2.1 (hdr hs i).2.2) := by
  obtain ⟨ad2, e, hc⟩ := hd_at (Kd.C_below h hb) i hi
  have := Option.some.inj e
  subst this
  exact hc
set_option maxHeartbeats 8000000 in
set_option maxRecDepth 100000 in
theorem written_calls (blk : Nat) (A0 : Option Addr) (c0 : Nat) (rs : List (List Int)) (hs : List (Option Addr × Nat × Nat)) (w : World) (h1 : 32 ≤ blk) (h2 : blk ≤ 32768) (hH : Heads w rs hs) (hC : hdK.C w A0 rs.length hs) (hc0 : rs.length ≤ c0) (hby : ∀ r ∈ rs, Byt r) (hbulk : bulk rs ≤ 1048576) (hT : TabAt w) :
    Calls Tryd.prog 22 #[.int .i64 (blk : Int), .slice A0 rs.length c0] w fun e w' => ∃ v0 v1 v2 : Value, e = .returned (.tuple #[v0, v1, v2, .bool true]) ∧ Kd.R (Kd.int .u8) 5 w' w.heap.size (fun _ => True) v0 (fileOf blk rs) ∧ Kd.R (Kd.int .i64) 3 w' w.heap.size (fun _ => True) v1 (endsOf blk rs) ∧ Kd.R hdK 22 w' w.heap.size (fun _ => True) v2 hs ∧ Below w.heap.size w w' := by
  have HH := Aside0.mk hH
  have HC := Aside0.mk hC
  have HBY := Aside0.mk hby
  have HT := Aside0.mk hT
  have HBK := Aside0.mk hbulk
  have HHL := Aside0.mk hH.1
  have hinfo : (Tryd.prog.info? 5).map (fun i => (i.zero, i.size, i.bytes)) = some (some (.int .u8 0), 1, 1) := by kernel_rfl
  have HI := Aside0.mk hinfo
  have hinfo2 : (Tryd.prog.info? 3).map (fun i => (i.zero, i.size, i.bytes)) = some (some (.int .i64 0), 1, 8) := by kernel_rfl
  have HI2 := Aside0.mk hinfo2
  have hinfo3 : (Tryd.prog.info? 22).map (fun i => (i.zero, i.size, i.bytes)) = some (some (.slice none 0 0), 1, 24) := by kernel_rfl
  have HI3 := Aside0.mk hinfo3
  have hnl : rs.length ≤ 1048576 := Nat.le_trans (bulk_len rs) hbulk
  obtain ⟨n, hn⟩ : ∃ n, rs.length = n := ⟨_, rfl⟩
  have HN := Aside0.mk hn
  rw [hn] at hnl hc0 ⊢
  have HCC := Aside0.mk (show hdK.C w A0 n hs by rw [← hn]; exact hC)
  clear hH hC hby hT hbulk hinfo hinfo2 hinfo3 hn
  go_enter Tryd.func22, Tryd.ntmps22
  go_wp2_with fail
  (with_reducible refine (new_writer blk 0 _ h1 h2 (Int.le_refl _)).mono ?_)
  rintro e w1 ⟨g, rfl, hw, hg0, hb⟩
  have HW1 := Aside0.mk hw
  have HB1 := Aside0.mk hb
  have HG := Aside0.mk hg0
  clear hw hb hg0
  go_wp2_with fail
  go_loopw [10, 11, 12, 13] (fun v10 v11 v12 v13 wr => ∃ (k : Nat), v13 = .int .i64 (k : Int) ∧ k ≤ n ∧ Aside0 (Kd.R (Kd.int .u8) 5 wr w.heap.size (fun _ => True) v10 (fileOf blk (rs.take k))) ∧ Aside0 (Kd.R (Kd.int .i64) 3 wr w.heap.size (fun _ => True) v11 (endsOf blk (rs.take k))) ∧ Aside0 (Kd.R hdK 22 wr w.heap.size (fun _ => True) v12 (hs.take k)) ∧ Aside0 (WrAt wr g (blk : Int) ((fileOf blk (rs.take k)).length : Int)) ∧ Aside0 (Below w.heap.size w wr)) (fun _ _ _ v13 _ => n - (intOf v13).toNat)
  case atStart => exact ⟨0, rfl, by omega, ⟨Kd.R_nil _ _ _ _ _⟩, ⟨Kd.R_nil _ _ _ _ _⟩, ⟨Kd.R_nil _ _ _ _ _⟩, HW1, HB1⟩
  case round =>
    clear HW1 HB1
    obtain ⟨k, rfl, hkn, HF, HE, HK, HW, HB⟩ := hrel
    by_cases hlt : k < n
    · have b1 : decide ((k : Int) < (n : Int)) = true := decide_eq_true (by omega)
      have hkr : k < rs.length := by rw [HN.out]; exact hlt
      obtain ⟨ad, e1, _⟩ := hd_at HCC.out k hlt
      cases e1
      have HCELL := Aside0.mk (hdr_cell HCC.out k hlt)
      have hd2 := HH.out.2 k hkr
      have HSN := Aside0.mk (takeh_snoc (hs := hs) (k := k) (by rw [HHL.out]; exact hkr))
      have HFN := Aside0.mk (show fileOf blk (rs.take (k + 1)) = fileOf blk (rs.take k) ++ addR blk ((fileOf blk (rs.take k)).length % blk) (rec rs k) by rw [take_snoc hkr, fileOf_snoc])
      have HEN := Aside0.mk (endsOf_snoc blk rs k hkr)
      have hrl := bulk_rec hkr
      have hfl := fileOf_len blk h1 rs (k + 1) (by omega)
      have hfl0 := fileOf_len blk h1 rs k (by omega)
      have hbt := bulk_take rs (k + 1)
      have hbt0 := bulk_take rs k
      have HRB := Aside0.mk (HBY.out (rec rs k) (List.mem_of_getElem? (rec_get hkr)))
      obtain ⟨r, hr⟩ : ∃ r, rec rs k = r := ⟨_, rfl⟩
      obtain ⟨F, hF⟩ : ∃ F, fileOf blk (rs.take k) = F := ⟨_, rfl⟩
      obtain ⟨F2, hF2⟩ : ∃ F2, fileOf blk (rs.take (k + 1)) = F2 := ⟨_, rfl⟩
      obtain ⟨E, hE⟩ : ∃ E, endsOf blk (rs.take k) = E := ⟨_, rfl⟩
      have HEL := Aside0.mk (show E.length = k by rw [← hE]; unfold endsOf; rw [List.length_map, List.length_range, List.length_take]; omega)
      obtain ⟨x, hx⟩ : ∃ x, hdr hs k = x := ⟨_, rfl⟩
      rw [hx, hr] at hd2
      rw [hx] at HCELL HSN
      rw [hr] at hrl HRB HFN
      rw [hF] at HF HW hfl0 HFN
      rw [hF2] at hfl HFN HEN
      rw [hE] at HE HEN
      obtain ⟨B, m, dc⟩ := x
      obtain ⟨hm, hdc, hrC⟩ := hd2
      simp only [] at hm hdc hrC
      subst hm
      have HRC := Aside0.mk hrC
      have HDC := Aside0.mk hdc
      have hr1 : r.length ≤ 1048576 := by have := HBK.out; omega
      have hFl : F.length ≤ 24200000 := by have := HBK.out; omega
      have hF2l : F2.length ≤ 24200000 := by have := HBK.out; omega
      have b2 : decide ((r.length : Int) > 2097152) = false := decide_eq_false (by omega)
      have b3 : decide (2097152 < r.length) = false := decide_eq_false (by omega)
      have hAL : F2.length = F.length + (addR blk (F.length % blk) r).length := by rw [HFN.out, List.length_append]
      obtain ⟨D, hD⟩ : ∃ D, addR blk (F.length % blk) r = D := ⟨_, rfl⟩
      have hDL : 7 + r.length ≤ D.length := by rw [← hD, addR_len]; exact costR_ge blk h1 _ _
      have b4 : decide ((D.length : Int) < 7 + (r.length : Int)) = false := decide_eq_false (by omega)
      rw [hD] at HFN hAL
      have HD := Aside0.mk hD
      have HFL := Aside0.mk hFl
      have HF2L := Aside0.mk hF2l
      have HR1 := Aside0.mk hr1
      have HDL := Aside0.mk (show D.length ≤ 24200000 by omega)
      have hq1 := HCELL.out wr HB.out
      have ew : wrap64 ((k : Int) + 1) = ((k + 1 : Nat) : Int) := by unfold wrap64; omega
      have HX2 := Aside0.mk hF2
      have HAL := Aside0.mk hAL
      clear hrC hdc hfl hfl0 hbt hbt0 hrl hr hF hF2 hE hx hFl hF2l hAL hD hkr hDL
      have hk1 : k ≤ 1048576 := by omega
      go_wp2_with fail
      (with_reducible refine (wr_add g blk F.length B dc r wr h1 h2 (by have := HFL.out; omega) HW.out (HT.out.below HB.out) (Kd.C_below HRC.out HB.out) HDC.out HRB.out (by have := HR1.out; omega)).mono ?_)
      rintro e w2 ⟨vd, rfl, hdR, hw2, w1', hb1, rfl⟩
      rw [HD.out] at hdR hw2 ⊢
      have hw1' := HW.out.below hb1
      have HB2 := Aside0.mk (below_set (v := .int .i64 ((F.length + D.length : Nat) : Int)) (j := 1) (below_step HB.out hb1) HG.out)
      have HF2' := Aside0.mk (wr_set hw1' (Kd.R_below HF.out hb1) (by decide) (.int .i64 ((F.length + D.length : Nat) : Int)))
      have HE2 := Aside0.mk (wr_set hw1' (Kd.R_below HE.out hb1) (by decide) (.int .i64 ((F.length + D.length : Nat) : Int)))
      have HK2 := Aside0.mk (wr_set hw1' (Kd.R_below HK.out hb1) (by decide) (.int .i64 ((F.length + D.length : Nat) : Int)))
      have HW2 := Aside0.mk hw2
      have HDR := Aside0.mk hdR
      obtain ⟨AD, cD, rfl, hcD, hD2⟩ := Kd.R_reads hdR
      have HD2 := Aside0.mk hD2
      generalize hWW : w1'.setCell ⟨g, 1, none⟩ (.int .i64 ((F.length + D.length : Nat) : Int)) = W2 at *
      have hq2 := HCELL.out W2 HB2.out
      clear hWW hw1' hb1 hw2 hdR hD2 hq1 hcD
      go_wp2_with (first
        | ((with_reducible refine gate_builtin (b := .append) (xs := #[.tmp 61, .tmp 62]) rfl ?_); at_builtin; refine Kd.R_append_rows (Kd.int .u8)  (w0 := w) w.heap.size rfl (.tmp 61) (.tmp 62) 22 5 (.int .u8 0) 1 rfl Tryd.underlying22 HI.out rfl (by decide) (by omega) u10 F D _ _ _ (fun _ => True) (fun _ => False) rfl rfl ?aO ?aR (fun _ _ h => h) (fun _ h => h.elim) (fun _ _ => trivial) ?aB ?aS ?aL ?_; (case aO => exact HF2'.out); (case aR => exact HD2.out); (case aB => exact HB2.out); (case aS => exact (HB2.out).size); (case aL => have := HFL.out; have := HDL.out; omega); intro v63 w3 ho hb hg hat; rw [← HFN.out] at ho; have HE3 := Aside0.mk (Kd.R_over HE2.out HF2'.out (by decide) hg); have HK3 := Aside0.mk (Kd.R_over HK2.out HF2'.out (by decide) hg); have HW3 := Aside0.mk (wr_grown HW2.out HF2'.out (by decide) hg); have HF3 := Aside0.mk ho; have HB3 := Aside0.mk hb; obtain ⟨AF, cF, rfl⟩ := Kd.R_slice HF3.out; clear ho hb hg hat)
        | ((with_reducible refine gate_builtin (b := .append) (xs := #[.tmp 64, .tmp 67]) rfl ?_); at_builtin; refine Kd.R_append (Kd.int .i64) (w0 := w) w.heap.size rfl (.tmp 64) (.tmp 67) 46 3 (.int .i64 0) 8 rfl Tryd.underlying46 HI2.out rfl (by decide) (by omega) u11 E (F2.length : Int) [.int .i64 (F2.length : Int)] (fun _ => True) (fun _ => False) rfl rfl ?aP (fun _ hk => hk.elim) (fun _ _ => trivial) ?aO ?aB ?aS ?aL ?_; (case aP => exact rfl); (case aO => exact HE3.out); (case aB => exact HB3.out); (case aS => exact (HB3.out).size); (case aL => rw [HEL.out]; omega); intro v68 w4 ho hb hg hat; rw [← HEN.out] at ho; have HF4 := Aside0.mk (Kd.R_over HF3.out HE3.out (by decide) hg); have HK4 := Aside0.mk (Kd.R_over HK3.out HE3.out (by decide) hg); have HW4 := Aside0.mk (wr_grown HW3.out HE3.out (by decide) hg); have HE4 := Aside0.mk ho; have HB4 := Aside0.mk hb; have hq4 := HCELL.out w4 HB4.out; clear ho hb hg hat)
        | ((with_reducible refine gate_builtin (b := .append) (xs := #[.tmp 69, .tmp 74]) rfl ?_); at_builtin; refine Kd.R_append hdK (w0 := w) w.heap.size rfl (.tmp 69) (.tmp 74) 33 22 (.slice none 0 0) 24 rfl Tryd.underlying33 HI3.out rfl (by decide) (by omega) u12 (hs.take k) (B, r.length, dc) [.slice B r.length dc] (fun _ => True) (fun _ => False) rfl rfl ?aP (fun _ hk => hk.elim) (fun _ _ => trivial) ?aO ?aB ?aS ?aL ?_; (case aP => exact rfl); (case aO => exact HK4.out); (case aB => exact HB4.out); (case aS => exact (HB4.out).size); (case aL => rw [List.length_take]; omega); intro v75 w5 ho hb hg hat; rw [← HSN.out] at ho; have HF5 := Aside0.mk (Kd.R_over HF4.out HK4.out (by decide) hg); have HE5 := Aside0.mk (Kd.R_over HE4.out HK4.out (by decide) hg); have HW5 := Aside0.mk (wr_grown HW4.out HK4.out (by decide) hg); have HK5 := Aside0.mk ho; have HB5 := Aside0.mk hb; clear ho hb hg hat))
      go_roundw
      case rel => exact ⟨k + 1, by go_num, by omega, by rw [HX2.out]; exact HF5, HE5, HK5, by rw [HX2.out, HAL.out]; exact HW5, HB5⟩
      case measure => simp only [intOf]; omega
    · obtain rfl : k = n := by omega
      have b1 : decide ((k : Int) < (k : Int)) = false := decide_eq_false (by omega)
      have hr1 : rs.take k = rs := List.take_of_length_le (Nat.le_of_eq HN.out)
      have hr2 : hs.take k = hs := List.take_of_length_le (Nat.le_of_eq (HHL.out.trans HN.out))
      rw [hr1] at HF HE HW
      rw [hr2] at HK
      obtain ⟨F, hF⟩ : ∃ F, fileOf blk rs = F := ⟨_, rfl⟩
      obtain ⟨E, hE⟩ : ∃ E, endsOf blk rs = E := ⟨_, rfl⟩
      have HX := Aside0.mk hF
      have HX2 := Aside0.mk hE
      rw [hF] at HF HW
      rw [hE] at HE
      obtain ⟨AF, cF, rfl⟩ := Kd.R_slice HF.out
      clear hr1 hr2 hF hE
      go_wp2_with fail
      (with_reducible refine (wr_size g _ _ (by omega) _ HW.out).mono ?_)
      rintro e w2 ⟨rfl, rfl⟩
      go_wp2
      refine bodyPost_ret (v := .tuple #[.slice AF F.length cF, u11, u12, .bool true]) (by simp [results, Tryd.results22, go_sem]) rfl ?_
      exact ⟨_, _, _, rfl, by rw [HX.out]; exact HF.out, by rw [HX2.out]; exact HE.out, HK.out, HB.out⟩

end Go.Proofs.YtmpkigambfghgaaDoor.G
