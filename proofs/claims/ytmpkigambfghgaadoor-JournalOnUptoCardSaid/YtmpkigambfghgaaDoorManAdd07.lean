/- Contracts typed by hand: journal: a Writer's none, room, Add by hand -/
import Derived.Test.YtmpkigambfghgaaDoorProg
import Derived.Below
import Derived.Deep.Draws
import Derived.Deep.AppendLies
import Derived.Maps.AppendAt
import Derived.OwnWalk
import Derived.Laws.BytesArg
import Derived.Laws.MakeOwn
import Derived.Laws.OwnMore
import Derived.Deep.OwnRows
import Derived.Tactics
import Derived.Lib.ConvBytes
import Derived.Laws.Slices
import Derived.WalkKit
import Derived.KernelRfl
import Derived.RowKit3
import Derived.Deep.LoopGhost
import Derived.Deep.QuietTactic
import Derived.BigQuiet
import Derived.WideLaws
import Derived.Deep.DeepCutAuto
import Derived.Deep.CutBlock
import Derived.Deep.RegionHeld3
import Derived.Laws.Rows
import Derived.Lib.AppendStr
import Derived.ArgAppend
import Derived.Laws.IdiomCopy
import Derived.OrdersHeld
import Derived.Laws.BitsLemmas
import Derived.RowKit
import Derived.Test.YtmpkigambfghgaaDoorWWords
import Derived.Test.YtmpkigambfghgaaDoorWLast
import Derived.Test.YtmpkigambfghgaaDoorWTab
import Derived.Test.YtmpkigambfghgaaDoorWFour
import Derived.Test.YtmpkigambfghgaaDoorWQPut
import Derived.Test.YtmpkigambfghgaaDoorWApart
import Derived.Test.YtmpkigambfghgaaDoorWArr
import Derived.Test.YtmpkigambfghgaaDoorWZeros
import Derived.Test.YtmpkigambfghgaaDoorWFoot
import Derived.Test.YtmpkigambfghgaaDoorWKept
import Derived.Test.YtmpkigambfghgaaDoorWShare
import Derived.Test.YtmpkigambfghgaaDoorWN
import Derived.Test.YtmpkigambfghgaaDoorWFootNe
import Derived.Test.YtmpkigambfghgaaDoorWAt
import Derived.Test.YtmpkigambfghgaaDoorWEqStruct
import Derived.Test.YtmpkigambfghgaaDoorWRepsOne
import Derived.Test.YtmpkigambfghgaaDoorWInv
import Derived.Test.YtmpkigambfghgaaDoorWInvWords
import Derived.Test.YtmpkigambfghgaaDoorWGuard
import Derived.Test.YtmpkigambfghgaaDoorWNEv
import Derived.Test.YtmpkigambfghgaaDoorWMore
import Derived.Test.YtmpkigambfghgaaDoorPureJ07
import Derived.Deep.LoopGhost
import Derived.Test.YtmpkigambfghgaaDoorGx7
namespace Go.Proofs.YtmpkigambfghgaaDoor.G
open Go.RowKit Go.Proofs.YtmpkigambfghgaaDoorW.PrintWords Go.Proofs.YtmpkigambfghgaaDoorW.PrintLast Go.Proofs.YtmpkigambfghgaaDoorW.PrintMore
attribute [local go_sem] max2_int min2_int max_two min_two max_three min_three max_four min_four
set_option linter.unusedVariables false
set_option linter.unusedSimpArgs false

/-! journal: a Writer's none, room, Add by hand -/
/-- a writer's two numbers -/
def WrAt (w : World) (g : Nat) (blk size : Int) : Prop := w.heap[g]? = some (.cells #[.int .i64 blk, .int .i64 size] 25 (0, 0))
theorem WrAt.cells {w : World} {g : Nat} {blk size : Int} (h : WrAt w g blk size) : w.cell? ⟨g, 0, none⟩ = some (.int .i64 blk) ∧ w.cell? ⟨g, 1, none⟩ = some (.int .i64 size) ∧ w.frozen? ⟨g, 1, none⟩ = false := ⟨blk_cell h 0, blk_cell h 1, blk_frozen h 1⟩
theorem WrAt.below {w w1 : World} {g : Nat} {blk size : Int} (h : WrAt w g blk size) (hb : Below w.heap.size w w1) : WrAt w1 g blk size := (hb.block g (blk_lt h)).trans h
theorem wr_none (g : Nat) (blk size : Int) (hb : blk ≠ 0) (w : World) (h : WrAt w g blk size) :
    Calls Tryd.prog 27 #[.pointer (some ⟨g, 0, none⟩)] w fun e w' => e = .returned (.bool false) ∧ w = w' := by
  have h0 := h.cells.1
  have hb' : (blk == 0) = false := by simpa using hb
  go_enter Tryd.func27, Tryd.ntmps27
  go_wp2
  go_ret
  exact ⟨rfl, rfl⟩
theorem wr_room (g blk p : Nat) (size : Int) (hp : p < blk) (h1 : 32 ≤ blk) (h2 : blk ≤ 32768) (w : World) (h : WrAt w g (blk : Int) size) :
    Calls Tryd.prog 28 #[.pointer (some ⟨g, 0, none⟩), .int .i64 (p : Int)] w fun e w' => e = .returned (.tuple #[.int .i64 ((padJ blk p : Nat) : Int), .int .i64 ((mostJ blk p : Nat) : Int)]) ∧ Drawn0 w w' := by
  have h0 := h.cells.1
  unfold padJ mostJ
  by_cases c : blk - p < 7
  · have c1 : decide ((blk : Int) - (p : Int) < 7) = true := decide_eq_true (by omega)
    rw [if_pos c, if_pos c]
    go_enter Tryd.func28, Tryd.ntmps28
    go_wp2
    go_quiet (fail)
    all_goals go_wp2
    go_ret2
    exact ⟨by rw [show ((blk - p : Nat) : Int) = (blk : Int) - (p : Int) by omega, show ((blk - 7 : Nat) : Int) = (blk : Int) - 7 by omega]; rfl, ⟨_, rfl⟩⟩
  · have c1 : decide ((blk : Int) - (p : Int) < 7) = false := decide_eq_false (by omega)
    rw [if_neg c, if_neg c]
    go_enter Tryd.func28, Tryd.ntmps28
    go_wp2
    go_ret2
    exact ⟨by rw [show ((blk - p - 7 : Nat) : Int) = (blk : Int) - (p : Int) - 7 by omega]; rfl, Drawn0.refl _⟩
theorem seven_is (s n : Nat) (kd : Int) (hs : s < 4294967296) (hn : n < 65536) : ([(s : Int) % 256, (s : Int) / 256 % 256, (s : Int) / 65536 % 256, (s : Int) / 16777216, (n : Int) % 256, (n : Int) / 256, kd] : List Int) = fourJ s ++ twoJ n ++ [kd] := by
  have h1 : (s : Int) / 16777216 = (s : Int) / 16777216 % 256 := by omega
  have h2 : (n : Int) / 256 = (n : Int) / 256 % 256 := by omega
  rw [h1, h2]
  simp [fourJ, twoJ]
set_option maxHeartbeats 8000000 in
set_option maxRecDepth 100000 in
theorem wr_add (g blk : Nat) (size : Nat) (A : Option Addr) (c : Nat) (r : List Int) (w : World) (h1 : 32 ≤ blk) (h2 : blk ≤ 32768) (hs : size ≤ 4611686018427387904 + 1099511627776) (h : WrAt w g (blk : Int) (size : Int)) (hT : TabAt w)
    (hr : Kd.C (Kd.int .u8) w A r.length r) (hc : r.length ≤ c) (hb : Byt r) (hl : r.length ≤ 2097152) :
    Calls Tryd.prog 10 #[.pointer (some ⟨g, 0, none⟩), .slice A r.length c] w fun e w' => ∃ v : Value, e = .returned (.tuple #[v, .int .i64 0]) ∧ Kd.R (Kd.int .u8) 5 w' w.heap.size (fun _ => True) v (addR blk (size % blk) r) ∧
      WrAt w' g (blk : Int) ((size + (addR blk (size % blk) r).length : Nat) : Int) ∧ ∃ w1, Below w.heap.size w w1 ∧ w' = w1.setCell ⟨g, 1, none⟩ (.int .i64 ((size + (addR blk (size % blk) r).length : Nat) : Int)) := by
  have H := Aside0.mk h
  have HR := Aside0.mk hr
  have HC := Aside0.mk hc
  have HBY := Aside0.mk hb
  have HL := Aside0.mk hl
  have HT := Aside0.mk hT
  have HLEN := Aside0.mk (costR_le blk h1 (size % blk) r.length)
  rw [← addR_len] at HLEN
  obtain ⟨L, hL⟩ : ∃ L, addR blk (size % blk) r = L := ⟨_, rfl⟩
  have HLL := Aside0.mk hL
  rw [hL] at HLEN ⊢
  have hs0 := h.cells.1
  have hs1 := h.cells.2.1
  have hinfo : (Tryd.prog.info? 5).map (fun i => (i.zero, i.size, i.bytes)) = some (some (.int .u8 0), 1, 1) := by kernel_rfl
  have HI := Aside0.mk hinfo
  have hb0 : decide ((r.length : Int) > 2097152) = false := decide_eq_false (by omega)
  have hmod : (size : Int) % (blk : Int) = ((size % blk : Nat) : Int) := by omega
  have hblk0 : ((blk : Int) == 0) = false := by simp; omega
  clear h hr hc hb hT hL hinfo
  go_enter Tryd.func10, Tryd.ntmps10
  go_wp2_with fail
  (with_reducible refine (wr_none g _ _ (by omega) _ H.out).mono ?_)
  rintro e w1 ⟨rfl, rfl⟩
  go_wp2_with fail
  go_quiet (fail)
  all_goals go_wp2
  go_loopg [1, 6, 7, 8] (r.length + 2) (fun kq v1 v6 v7 v8 wr => ∃ (r' out : List Int) (A' : Option Addr) (c' p : Nat) (first : Bool), v1 = .slice A' r'.length c' ∧ v7 = .int .i64 (p : Int) ∧ v8 = .bool first ∧ p < blk ∧ r'.length ≤ 2097152 ∧ Aside0 (Enough blk kq p r'.length) ∧ Aside0 (r'.length ≤ c') ∧ Aside0 (Byt r') ∧ Aside0 (out ++ addJ blk kq p first r' = L) ∧ Aside0 (Kd.C (Kd.int .u8) w A' r'.length r') ∧ Aside0 (Kd.R (Kd.int .u8) 5 wr w.heap.size (fun _ => True) v6 out) ∧ Aside0 (Below w.heap.size w wr))
  case atStart => exact ⟨r, [], A, c, size % blk, true, rfl, by rw [hmod], rfl, Nat.mod_lt _ (by omega), hl, ⟨enough_self _ _ _⟩, HC, HBY, ⟨HLL.out⟩, HR, ⟨Kd.R_nil _ _ _ _ _⟩, ⟨pw_below_drewN (Below.refl _ _) _⟩⟩
  case round =>
    clear hs0 hs1 hb0 hmod
    obtain ⟨r', out, A', c', p, first, rfl, rfl, rfl, hp, hrl, HE, HC', HBY', HOUT, HR', HO, HB⟩ := hrel
    have HN := Aside0.mk hl
    clear hl
    cases gk with
    | zero => exact absurd HE.out (by unfold Enough; split <;> omega)
    | succ k =>
      have hpm := pad_most h1 p
      obtain ⟨pad, hpad⟩ : ∃ pad, padJ blk p = pad := ⟨_, rfl⟩
      obtain ⟨most, hmost⟩ : ∃ most, mostJ blk p = most := ⟨_, rfl⟩
      have HROOM := Aside0.mk (wr_room g blk p size hp h1 h2 wr (H.out.below HB.out))
      rw [hpad, hmost] at hpm
      rw [hpad, hmost] at HROOM
      have HPAD := Aside0.mk hpad
      have HMOST := Aside0.mk hmost
      have hpad6 := hpm.1
      have hmostb := hpm.2.2
      clear hpad hmost hpm
      obtain ⟨n, hn⟩ : ∃ n, min most r'.length = n := ⟨_, rfl⟩
      have hn1 : n ≤ r'.length := by omega
      have hn2 : n ≤ 32768 := by omega
      have hmn1 : (if (r'.length : Int) < (most : Int) then (r'.length : Int) else (most : Int)) = (n : Int) := by split <;> omega
      have hmn2 : (if r'.length < most then (r'.length : Int) else (most : Int)) = (n : Int) := by split <;> omega
      have HNN := Aside0.mk hn
      have hbl1 := HL.out
      clear hn hbl1
      go_wp2_with fail
      (with_reducible refine HROOM.out.mono ?_)
      rintro e w2 ⟨rfl, hd⟩
      have HB2 := Aside0.mk (below_step HB.out hd.below)
      have HO2 := Aside0.mk (Kd.R_below HO.out hd.below)
      clear hd
      have HL1 := Aside0.mk (show out.length + (addJ blk (k + 1) p first r').length = L.length by rw [← List.length_append, HOUT.out])
      have HOB := Aside0.mk (show out.length ≤ 5000000 by have := HL1.out; have := HLEN.out; have := HL.out; omega)
      go_wp2_with (first
        | ((with_reducible refine gate_builtin (b := .append) (xs := #[.tmp 34, .tmp 35]) rfl ?_); at_builtin; refine Kd.R_append_zeros (Kd.int .u8) (w0 := w) w.heap.size rfl (.tmp 34) (.tmp 35) 22 3 5 (.int .u8 0) 1 rfl Tryd.underlying22 Tryd.underlying3 HI.out rfl (by decide) (by omega) u6 out (0 : Int) (pad : Int) (fun _ => True) rfl rfl ?aZ (fun _ _ => trivial) ?aO ?a0 ?aB ?aS ?aL ?_; (case aZ => exact rfl); (case aO => exact HO2.out); (case a0 => exact Int.natCast_nonneg _); (case aB => exact HB2.out); (case aS => exact HB2.out.size); (case aL => have := HOB.out; rw [Int.toNat_natCast]; omega); intro v3 w3 ho hb hg hat; rw [Int.toNat_natCast] at ho; have HO3 := Aside0.mk ho; have HB3 := Aside0.mk hb; clear ho hb hg hat))
      obtain ⟨last, hlast⟩ : ∃ last, decide (r'.length ≤ most) = last := ⟨_, rfl⟩
      have hnl : (n = r'.length) ↔ last = true := by rw [← hlast]; simp; have := HNN.out; omega
      have hq1 : ((n : Int) == (r'.length : Int)) = last := by
        rw [Bool.eq_iff_iff, ← hnl]; simp only [beq_iff_eq, Int.ofNat_inj]
      have hq2 : (n == r'.length) = last := by
        rw [Bool.eq_iff_iff, ← hnl]; simp
      obtain ⟨kd, hkd⟩ : ∃ kd : Int, ((kindJ first last : Nat) : Int) = kd := ⟨_, rfl⟩
      have hkr := kindJ_range first last
      have hk0 : 0 ≤ kd ∧ kd < 256 := by omega
      have HKD := Aside0.mk hkd
      have HLAST := Aside0.mk hlast
      have htl : (r'.take n).length = n := by rw [List.length_take]; omega
      have hdl : (r'.drop n).length = r'.length - n := by rw [List.length_drop]
      have HKIND := Aside0.mk (journal_kindOf.calls 1 first last _ w3 (kindOf_eq 1 first last (Nat.le_refl _)))
      rw [hkd] at HKIND
      obtain ⟨sm, hsm⟩ : ∃ sm : Int, ((sumN kd (r'.take n) : Nat) : Int) = sm := ⟨_, rfl⟩
      have hsm0 : 0 ≤ sm ∧ sm < 4294967296 := by have := sumN_lt kd (r'.take n); omega
      have HSUM := Aside0.mk (fun W hW => journal_sumOf.calls (n + 2) kd A' c' (r'.take n) _ W (Kd.C_below (Kd.C_take HR'.out hn1) hW) (by rw [htl]; exact Nat.le_trans hn1 HC'.out) (sumOf_eq (n + 2) kd (r'.take n) hk0.1 hk0.2 (HBY'.out.take _) (by rw [htl]; omega) (Nat.le_of_eq (by rw [htl]))) (HT.out.below hW))
      rw [hsm, htl] at HSUM
      have HSM := Aside0.mk hsm
      obtain ⟨i0, hi0, _, hsz0, _⟩ := info_parts HI.out
      have hcut1 := cut_to (P := Tryd.prog) 22 5 .i64 Tryd.underlying22 hi0 A' r'.length c' (n : Int) (by omega) (by omega) HC'.out
      have hcut2 := cut_from (P := Tryd.prog) 22 5 .i64 Tryd.underlying22 hi0 1 hsz0 A' r'.length c' (n : Int) (by omega) (by omega)
      rw [Int.toNat_natCast] at hcut1 hcut2
      have hrd := Kd.C_drop HR'.out hn1 HC'.out
      rw [show n * (Kd.int .u8).sz = n * 1 from rfl] at hrd
      obtain ⟨A2, hA2⟩ : ∃ A2, (if c' = n then A' else A'.map (·.add (n * 1))) = A2 := ⟨_, rfl⟩
      rw [hA2] at hcut2 hrd
      have HRD := Aside0.mk hrd
      have HDL := Aside0.mk hdl
      have HTL := Aside0.mk htl
      have HNL := Aside0.mk hnl
      have hc2 : n ≤ c' := Nat.le_trans hn1 HC'.out
      clear hlast hkd hkr hsm hrd hA2 hi0 hsz0 htl hdl hnl
      rw [hq1]
      (with_reducible refine HKIND.out.mono ?_)
      rintro e w4 ⟨rfl, hd⟩
      have HB4 := Aside0.mk (below_step HB3.out hd.below)
      have HO4 := Aside0.mk (Kd.R_below HO3.out hd.below)
      clear hd
      go_wp2_with fail
      (with_reducible refine (HSUM.out _ HB4.out).mono ?_)
      rintro e w5 ⟨rfl, hb⟩
      have HB5 := Aside0.mk (below_step HB4.out hb)
      have HO5 := Aside0.mk (Kd.R_below HO4.out hb)
      clear hb
      obtain ⟨seven, hseven⟩ : ∃ s_ : List Int, s_ = ([sm % 256, sm / 256 % 256, sm / 65536 % 256, sm / 16777216, (n : Int) % 256, (n : Int) / 256, kd] : List Int) := ⟨_, rfl⟩
      have h7l : seven.length = 7 := by rw [hseven]; rfl
      have H7 := Aside0.mk hseven
      clear hseven
      have HP := Aside0.mk (show (out ++ List.replicate pad (0 : Int)).length ≤ 6000000 by rw [List.length_append, List.length_replicate]; have := HOB.out; omega)
      have HPC := Aside0.mk (show out ++ List.replicate pad (0 : Int) ++ seven ++ r'.take n = out ++ (List.replicate (padJ blk p) 0 ++ pieceJ (kindJ first last) (r'.take n)) by
        unfold pieceJ
        rw [H7.out, ← HSM.out, seven_is _ _ kd (sumN_lt _ _) (by omega), HPAD.out, HTL.out, ← HKD.out]
        simp only [List.append_assoc])
      have hcase : (last = true ∧ (((kd == 1) = true ∧ (kd == 4) = false) ∨ ((kd == 1) = false ∧ (kd == 4) = true))) ∨ (last = false ∧ (kd == 1) = false ∧ (kd == 4) = false) := by
        rw [← HKD.out]
        cases first <;> cases last <;> decide
      have HLS := Aside0.mk (show last = true → out ++ List.replicate pad (0 : Int) ++ seven ++ r'.take n = L by
        intro hl_
        have h3 : r'.length ≤ mostJ blk p := by rw [HMOST.out]; have := HLAST.out; rw [hl_] at this; exact of_decide_eq_true this
        have h4 : r'.take n = r' := by rw [HNL.out.2 hl_, List.take_length]
        have h5 := HOUT.out
        unfold addJ at h5
        rw [if_pos h3] at h5
        rw [HPC.out, hl_, h4]
        exact h5)
      have HNX := Aside0.mk (show last = false → (out ++ List.replicate pad (0 : Int) ++ seven ++ r'.take n) ++ addJ blk k 0 false (r'.drop n) = L ∧ Enough blk k 0 (r'.length - n) ∧ (p + pad + 7 + n) % blk = 0 by
        intro hl_
        have h3 : ¬ r'.length ≤ mostJ blk p := by rw [HMOST.out]; have := HLAST.out; rw [hl_] at this; exact of_decide_eq_false this
        have h4 : mostJ blk p = n := by rw [HMOST.out] at h3 ⊢; have := HNN.out; omega
        have h5 := HOUT.out
        unfold addJ at h5
        rw [if_neg h3, h4] at h5
        refine ⟨?_, ?_, ?_⟩
        · rw [HPC.out, hl_, List.append_assoc]
          exact h5
        · have := HE.out.next h1 h3
          rwa [h4] at this
        · have := mod_next blk p hp h1
          rwa [HPAD.out, h4] at this)
      rcases hcase with ⟨hl_, hcase⟩ | ⟨hl_, e1, e4⟩
      · have hL8 := Aside0.mk (HLS.out hl_)
        have hsz : ((size + L.length : Nat) : Int) = (size : Int) + (L.length : Int) := by omega
        have hLb : L.length ≤ 5000000 := by have := HLEN.out; have := HL.out; omega
        have HSZ := Aside0.mk hsz
        clear hsz hl_ HOUT
        rcases hcase with ⟨e1, e4⟩ | ⟨e1, e4⟩
        all_goals
          go_wp2_with (first
            | ((with_reducible refine gate_dst (N := 70) rfl ?_); refine Kd.R_lit (Kd.int .u8) (w0 := w) w.heap.size 5 ?hg (N := 70) ?hd (xs := ([sm % 256, sm / 256 % 256, sm / 65536 % 256, sm / 16777216, (n : Int) % 256, (n : Int) / 256, kd] : List Int)) (inner := [.int .u8 (sm % 256), .int .u8 (sm / 256 % 256), .int .u8 (sm / 65536 % 256), .int .u8 (sm / 16777216), .int .u8 ((n : Int) % 256), .int .u8 ((n : Int) / 256), .int .u8 kd]) (ok := fun _ => True) (okp := fun _ => True) ?hr ?hp (fun _ hk => hk) trivial ?hB ?hS (by simp) ?_; (case hd => rfl); (case hg => rfl); (case hr => first | (go_simp; done) | (go_simp; rfl)); (case hp => exact Kd.reps_scalar _); (case hB => exact HB5.out); (case hS => exact HB5.out.size); intro v70 w6 ho hb hg hnew; rw [← H7.out] at ho; obtain ⟨A6, c6, rfl, hc6, hr6⟩ := Kd.R_reads ho; have HO6 := Aside0.mk (Kd.R_grown (Kd.R_tight rfl HO5.out) hg (fun _ _ e_ => by cases e_)); have HR6 := Aside0.mk hr6; have HB6 := Aside0.mk hb; clear ho hb hg hnew hc6 hr6)
            | ((with_reducible refine gate_builtin (b := .append) (xs := #[.tmp 52, .tmp 70]) rfl ?_); at_builtin; refine Kd.R_append_rows (Kd.int .u8) (w0 := w) w.heap.size rfl (.tmp 52) (.tmp 70) 22 5 (.int .u8 0) 1 rfl Tryd.underlying22 HI.out rfl (by decide) (by omega) v3 (out ++ List.replicate pad (0 : Int)) seven _ _ _ (fun _ => True) (fun _ => False) rfl rfl ?aO ?aR (fun _ _ h => h) (fun _ h => h.elim) (fun _ _ => trivial) ?aB ?aS ?aL ?_; (case aO => exact Kd.R_mono HO6.out (fun _ _ => trivial)); (case aR => exact HR6.out); (case aB => exact HB6.out); (case aS => exact HB6.out.size); (case aL => have := HP.out; omega); intro v7 w7 ho hb hg hat; have HO7 := Aside0.mk ho; have HB7 := Aside0.mk hb; have HR7 := Aside0.mk (Kd.C_take HR'.out hn1); have HP7 := Aside0.mk (show ((out ++ List.replicate pad (0 : Int)) ++ seven).length ≤ 6000007 by rw [List.length_append, h7l]; have := HP.out; omega); have hx := (H.out.below hb).cells; have hx0 := hx.1; clear ho hb hg hat hx)
            | ((with_reducible refine gate_builtin (b := .append) (xs := #[.tmp 72, .tmp 75]) rfl ?_); at_builtin; refine Kd.R_append_rows (Kd.int .u8) (w0 := w) w.heap.size rfl (.tmp 72) (.tmp 75) 22 5 (.int .u8 0) 1 rfl Tryd.underlying22 HI.out rfl (by decide) (by omega) v7 ((out ++ List.replicate pad (0 : Int)) ++ seven) (r'.take n) A' n c' (fun _ => True) (fun _ => False) rfl rfl ?aO ?aR (fun _ _ h => h) (fun _ h => h.elim) (fun _ _ => trivial) ?aB ?aS ?aL ?_; (case aO => exact HO7.out); (case aR => have hq := Kd.C_below HR7.out HB7.out; rw [HTL.out] at hq; exact hq); (case aB => exact HB7.out); (case aS => exact HB7.out.size); (case aL => have := HP7.out; omega); intro v8 w8 ho hb hg hat; rw [hL8.out] at ho; obtain ⟨A8, c8, rfl⟩ := Kd.R_slice ho; have HO8 := Aside0.mk ho; have HB8 := Aside0.mk hb; have HW8 := Aside0.mk (H.out.below hb); have hx := (H.out.below hb).cells; have hx0 := hx.1; have hx1 := hx.2.1; have hx2 := hx.2.2; clear ho hb hg hat hx))
          go_ret2
          refine ⟨_, rfl, Kd.R_mono (Kd.R_far (p := ⟨g, 1, none⟩) (Kd.R_types HO8.out HW8.out (by decide)) (fun _ hk => hk.2) _) (fun _ hk => hk.1), ?_, w8, HB8.out, by rw [HSZ.out]⟩
          rw [HSZ.out]
          exact blk_put HW8.out 1 _ rfl
      · have HN3 := Aside0.mk (HNX.out hl_)
        have hmd : ((p : Int) + (pad : Int) + 7 + (n : Int)) % (blk : Int) = ((0 : Nat) : Int) := by rw [show (p : Int) + (pad : Int) + 7 + (n : Int) = ((p + pad + 7 + n : Nat) : Int) by omega, ← Int.natCast_emod, HN3.out.2.2]
        go_wp2_with (first
          | ((with_reducible refine gate_dst (N := 70) rfl ?_); refine Kd.R_lit (Kd.int .u8) (w0 := w) w.heap.size 5 ?hg (N := 70) ?hd (xs := ([sm % 256, sm / 256 % 256, sm / 65536 % 256, sm / 16777216, (n : Int) % 256, (n : Int) / 256, kd] : List Int)) (inner := [.int .u8 (sm % 256), .int .u8 (sm / 256 % 256), .int .u8 (sm / 65536 % 256), .int .u8 (sm / 16777216), .int .u8 ((n : Int) % 256), .int .u8 ((n : Int) / 256), .int .u8 kd]) (ok := fun _ => True) (okp := fun _ => True) ?hr ?hp (fun _ hk => hk) trivial ?hB ?hS (by simp) ?_; (case hd => rfl); (case hg => rfl); (case hr => first | (go_simp; done) | (go_simp; rfl)); (case hp => exact Kd.reps_scalar _); (case hB => exact HB5.out); (case hS => exact HB5.out.size); intro v70 w6 ho hb hg hnew; rw [← H7.out] at ho; obtain ⟨A6, c6, rfl, hc6, hr6⟩ := Kd.R_reads ho; have HO6 := Aside0.mk (Kd.R_grown (Kd.R_tight rfl HO5.out) hg (fun _ _ e_ => by cases e_)); have HR6 := Aside0.mk hr6; have HB6 := Aside0.mk hb; clear ho hb hg hnew hc6 hr6)
          | ((with_reducible refine gate_builtin (b := .append) (xs := #[.tmp 52, .tmp 70]) rfl ?_); at_builtin; refine Kd.R_append_rows (Kd.int .u8) (w0 := w) w.heap.size rfl (.tmp 52) (.tmp 70) 22 5 (.int .u8 0) 1 rfl Tryd.underlying22 HI.out rfl (by decide) (by omega) v3 (out ++ List.replicate pad (0 : Int)) seven _ _ _ (fun _ => True) (fun _ => False) rfl rfl ?aO ?aR (fun _ _ h => h) (fun _ h => h.elim) (fun _ _ => trivial) ?aB ?aS ?aL ?_; (case aO => exact Kd.R_mono HO6.out (fun _ _ => trivial)); (case aR => exact HR6.out); (case aB => exact HB6.out); (case aS => exact HB6.out.size); (case aL => have := HP.out; omega); intro v7 w7 ho hb hg hat; have HO7 := Aside0.mk ho; have HB7 := Aside0.mk hb; have HR7 := Aside0.mk (Kd.C_take HR'.out hn1); have HP7 := Aside0.mk (show ((out ++ List.replicate pad (0 : Int)) ++ seven).length ≤ 6000007 by rw [List.length_append, h7l]; have := HP.out; omega); have hx := (H.out.below hb).cells; have hx0 := hx.1; clear ho hb hg hat hx)
          | ((with_reducible refine gate_builtin (b := .append) (xs := #[.tmp 72, .tmp 75]) rfl ?_); at_builtin; refine Kd.R_append_rows (Kd.int .u8) (w0 := w) w.heap.size rfl (.tmp 72) (.tmp 75) 22 5 (.int .u8 0) 1 rfl Tryd.underlying22 HI.out rfl (by decide) (by omega) v7 ((out ++ List.replicate pad (0 : Int)) ++ seven) (r'.take n) A' n c' (fun _ => True) (fun _ => False) rfl rfl ?aO ?aR (fun _ _ h => h) (fun _ h => h.elim) (fun _ _ => trivial) ?aB ?aS ?aL ?_; (case aO => exact HO7.out); (case aR => have hq := Kd.C_below HR7.out HB7.out; rw [HTL.out] at hq; exact hq); (case aB => exact HB7.out); (case aS => exact HB7.out.size); (case aL => have := HP7.out; omega); intro v8 w8 ho hb hg hat; have HO8 := Aside0.mk ho; have HB8 := Aside0.mk hb; have hx := (H.out.below hb).cells; have hx0 := hx.1; clear ho hb hg hat hx))
        go_roundg k
        case measure => omega
        case rel => exact ⟨r'.drop n, _, A2, c' - n, 0, false, by rw [HDL.out], by rw [hmd], rfl, by omega, by rw [HDL.out]; omega, ⟨by rw [HDL.out]; exact HN3.out.2.1⟩, ⟨by rw [HDL.out]; have := HC'.out; omega⟩, ⟨HBY'.out.drop n⟩, ⟨HN3.out.1⟩, HRD, HO8, HB8⟩

end Go.Proofs.YtmpkigambfghgaaDoor.G
