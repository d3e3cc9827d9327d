/- Contracts typed by hand: BloomAsks holds of every input within the form's reach -/
import Derived.Test.YticbfcfpchongaaProg
import Derived.Below
import Derived.Deep.Draws
import Derived.Deep.AppendLies
import Derived.Maps.AppendAt
import Derived.OwnWalk
import Derived.Laws.BytesArg
import Derived.Laws.MakeOwn
import Derived.Laws.OwnMore
import Derived.Deep.OwnRows
import Derived.Tactics
import Derived.Lib.ConvBytes
import Derived.Laws.Slices
import Derived.WalkKit
import Derived.KernelRfl
import Derived.RowKit3
import Derived.Deep.LoopGhost
import Derived.Deep.QuietTactic
import Derived.BigQuiet
import Derived.WideLaws
import Derived.Deep.DeepCutAuto
import Derived.Deep.CutBlock
import Derived.Deep.RegionHeld3
import Derived.Laws.Rows
import Derived.Lib.AppendStr
import Derived.ArgAppend
import Derived.Laws.IdiomCopy
import Derived.OrdersHeld
import Derived.Laws.BitsLemmas
import Derived.RowKit
import Derived.Test.YticbfcfpchongaaWWords
import Derived.Test.YticbfcfpchongaaWLast
import Derived.Test.YticbfcfpchongaaWTab
import Derived.Test.YticbfcfpchongaaWFour
import Derived.Test.YticbfcfpchongaaWQPut
import Derived.Test.YticbfcfpchongaaWApart
import Derived.Test.YticbfcfpchongaaWArr
import Derived.Test.YticbfcfpchongaaWZeros
import Derived.Test.YticbfcfpchongaaWFoot
import Derived.Test.YticbfcfpchongaaWKept
import Derived.Test.YticbfcfpchongaaWShare
import Derived.Test.YticbfcfpchongaaWN
import Derived.Test.YticbfcfpchongaaWFootNe
import Derived.Test.YticbfcfpchongaaWAt
import Derived.Test.YticbfcfpchongaaWEqStruct
import Derived.Test.YticbfcfpchongaaWRepsOne
import Derived.Test.YticbfcfpchongaaWInv
import Derived.Test.YticbfcfpchongaaWInvWords
import Derived.Test.YticbfcfpchongaaWGuard
import Derived.Test.YticbfcfpchongaaWNEv
import Derived.Test.YticbfcfpchongaaWMore
import Derived.Test.YticbfcfpchongaaLawBloomMisses
import Derived.Test.YticbfcfpchongaaLawBloomMakes
import Derived.Test.YticbfcfpchongaaManLent12
import Derived.Test.YticbfcfpchongaaGx15
import Derived.Test.YticbfcfpchongaaGx16
import Derived.Test.YticbfcfpchongaaGx1
namespace Go.Proofs.Yticbfcfpchongaa.G
open Go.RowKit Go.Proofs.YticbfcfpchongaaW.PrintWords Go.Proofs.YticbfcfpchongaaW.PrintLast Go.Proofs.YticbfcfpchongaaW.PrintMore
attribute [local go_sem] max2_int min2_int max_two min_two max_three min_three max_four min_four
set_option linter.unusedVariables false
set_option linter.unusedSimpArgs false

/-! BloomAsks holds of every input within the form's reach -/
theorem bitAt_in (f : List Int) (i j : Nat) (hj : j < 8) : bitAt f ((8 * i + j : Nat) : Int) = getv (rd f i) (j : Int) := by
  unfold bitAt
  rw [show ((8 * i + j : Nat) : Int) / 8 = (i : Int) by omega]
  unfold getv
  rw [show ((8 * i + j : Nat) : Int) % 8 = (j : Int) % 8 by omega]
def cntc (f : List Int) : Nat → Nat → Nat
  | 0, _ => 0
  | d + 1, c => (if bitAt f (c : Int) = true then 1 else 0) + cntc f d (c + 1)
theorem cntc_le (f : List Int) : ∀ d c, cntc f d c ≤ d
  | 0, _ => Nat.le_refl _
  | d + 1, c => by
    have := cntc_le f d (c + 1)
    simp only [cntc]
    split <;> omega
theorem cntc_add (f : List Int) : ∀ d e c, cntc f (d + e) c = cntc f d c + cntc f e (c + d)
  | 0, e, c => by simp [cntc]
  | d + 1, e, c => by
    rw [show d + 1 + e = (d + e) + 1 by omega]
    simp only [cntc]
    rw [cntc_add f d e (c + 1), show c + 1 + d = c + (d + 1) by omega]
    omega
theorem cntc_cnt (f : List Int) (i : Nat) : ∀ d j, j + d ≤ 8 → cntc f d (8 * i + j) = cnt (rd f i) d j
  | 0, _, _ => rfl
  | d + 1, j, h => by
    simp only [cntc, cnt]
    rw [bitAt_in f i j (by omega), show 8 * i + j + 1 = 8 * i + (j + 1) by omega, cntc_cnt f i d (j + 1) (by omega)]
theorem cntc_totb (f : List Int) : ∀ d i, cntc f (8 * d) (8 * i) = totb f d i
  | 0, _ => rfl
  | d + 1, i => by
    rw [show 8 * (d + 1) = 8 + 8 * d by omega, cntc_add]
    have h1 := cntc_cnt f i 8 0 (by omega)
    rw [Nat.add_zero] at h1
    have h2 := cntc_totb f d (i + 1)
    rw [show 8 * (i + 1) = 8 * i + 8 by omega] at h2
    simp only [totb]
    rw [h1, h2]
theorem bit_val (f : List Int) (bf : Byt f) (c : Nat) (hc : c ≤ 1099511627776) (hl : c / 8 < f.length) : wrap64 (Int.tdiv (c : Int) 8) = ((c / 8 : Nat) : Int) ∧ Int.tmod (c : Int) 8 = ((c % 8 : Nat) : Int) ∧ bits .and .u8 (shr .u8 (rd f ((c / 8 : Nat) : Int)) ((c % 8 : Nat) : Int)) 1 = if bitAt f (c : Int) = true then 1 else 0 := by
  have hr := rd_rng bf ((c / 8 : Nat) : Int)
  refine ⟨?_, ?_, ?_⟩
  · rw [Int.tdiv_eq_ediv_of_nonneg (by omega), wr _ (by omega) (by omega)]; omega
  · rw [Int.tmod_eq_emod_of_nonneg (by omega)]; omega
  · rw [bit_num _ (c % 8) hr.1 hr.2 (by omega)]
    have := bitAt_in f (c / 8) (c % 8) (by omega)
    rw [show 8 * (c / 8) + c % 8 = c by omega] at this
    rw [this]
theorem reffull_loop (f : List Int) (bf : Byt f) (B : Nat) (hB : B ≤ 8388609) (hf : B < f.length) : ∀ (d c k : Nat) (s : Int), c + d = 8 * B → 0 ≤ s → s + d ≤ 1099511627776 →
    moraineref12_Full.l0 (k + d + 1) f (B : Int) s (c : Int) = some (s + cntc f d c, 8 * (B : Int), 0)
  | 0, c, k, s, hc, s0, s1 => by
    have e8 : wrap64 (8 * (B : Int)) = 8 * (B : Int) := wr _ (by omega) (by omega)
    rw [moraineref12_Full.l0, e8, if_neg (by omega)]
    simp [cntc]
  | d + 1, c, k, s, hc, s0, s1 => by
    have e8 : wrap64 (8 * (B : Int)) = 8 * (B : Int) := wr _ (by omega) (by omega)
    have e5 : wrap64 ((c : Int) + 1) = ((c + 1 : Nat) : Int) := (wr _ (by omega) (by omega)).trans (by omega)
    obtain ⟨v1, v2, v3⟩ := bit_val f bf c (by omega) (by omega)
    have c1 : (c : Int) < 8 * (B : Int) := by omega
    have c2 : 0 ≤ ((c / 8 : Nat) : Int) := by omega
    have c3 : ((c / 8 : Nat) : Int) < (f.length : Int) := by omega
    have c4 : 0 ≤ ((c % 8 : Nat) : Int) := by omega
    rw [show k + (d + 1) + 1 = (k + d + 1) + 1 by omega, moraineref12_Full.l0, e8, if_pos c1, v1, v2, if_pos c2, if_pos c3, if_pos c4, v3, e5]
    by_cases hg : bitAt f (c : Int) = true
    · rw [if_pos hg, wr 1 (by omega) (by omega), wr (s + 1) (by omega) (by omega), reffull_loop f bf B hB hf d (c + 1) k (s + 1) (by omega) (by omega) (by omega)]
      simp only [cntc]
      rw [if_pos hg, show s + 1 + (cntc f d (c + 1) : Int) = s + ((1 + cntc f d (c + 1) : Nat) : Int) by omega]
    · rw [if_neg hg, wr 0 (by omega) (by omega), wr (s + 0) (by omega) (by omega), reffull_loop f bf B hB hf d (c + 1) k (s + 0) (by omega) (by omega) (by omega)]
      simp only [cntc]
      rw [if_neg hg, show s + 0 + (cntc f d (c + 1) : Int) = s + ((0 + cntc f d (c + 1) : Nat) : Int) by omega]
theorem refmay_loop (f : List Int) (bf : Byt f) (B : Nat) (hB : B ≤ 8388609) (hf : B < f.length) (L : List Int) (hL : L.length ≤ 30) (hb : ∀ b ∈ L, 0 ≤ b ∧ b < 8 * (B : Int)) : ∀ (d j k : Nat), j + d = L.length →
    moraineref12_May.l0 (k + d + 1) f L (j : Int) = some ((L.drop j).all (bitAt f))
  | 0, j, k, hj => by
    obtain rfl : j = L.length := by omega
    rw [moraineref12_May.l0, if_neg (by omega), List.drop_length]
    rfl
  | d + 1, j, k, hj => by
    have hjl : j < L.length := by omega
    have hrd : rd L (j : Int) = L[j] := by
      unfold rd
      rw [Int.toNat_natCast, List.getD_eq_getElem?_getD, List.getElem?_eq_getElem hjl]
      rfl
    obtain ⟨g0, g1⟩ := hb _ (List.getElem_mem hjl)
    have hd : L.drop j = L[j] :: L.drop (j + 1) := List.drop_eq_getElem_cons hjl
    have e5 : wrap64 ((j : Int) + 1) = ((j + 1 : Nat) : Int) := (wr _ (by omega) (by omega)).trans (by omega)
    have c0 : (j : Int) < (L.length : Int) := by omega
    have c1 : 0 ≤ (j : Int) := by omega
    have ih := refmay_loop f bf B hB hf L hL hb d (j + 1) k (by omega)
    rw [hd, List.all_cons]
    generalize L[j] = b at *
    obtain ⟨c, rfl⟩ := Int.eq_ofNat_of_zero_le g0
    obtain ⟨v1, v2, v3⟩ := bit_val f bf c (by omega) (by omega)
    have c2 : 0 ≤ ((c / 8 : Nat) : Int) := by omega
    have c3 : ((c / 8 : Nat) : Int) < (f.length : Int) := by omega
    have c4 : 0 ≤ ((c % 8 : Nat) : Int) := by omega
    rw [show k + (d + 1) + 1 = (k + d + 1) + 1 by omega, moraineref12_May.l0, if_pos c0, if_pos c1, hrd, v1, v2, if_pos c2, if_pos c3, if_pos c4, v3, e5]
    by_cases hg : bitAt f (c : Int) = true
    · rw [if_pos hg, if_neg (by omega), ih, hg, Bool.true_and]
    · rw [if_neg hg, if_pos rfl]
      simp only [Bool.not_eq_true] at hg
      rw [hg, Bool.false_and]
theorem right_cases (f : List Int) (hl : f.length ≤ 1048576) : (bloom_right.f f = some false ∧ moraineref12_Is.f f = some false) ∨ (moraineref12_Is.f f = some true ∧ ∃ B : Nat, f.length = B + 1 ∧ 1 ≤ B ∧ B ≤ 1048575 ∧ 1 ≤ rd f B ∧ rd f B ≤ 30) := by
  by_cases h2 : 2 ≤ f.length
  · obtain ⟨B, hB⟩ : ∃ B, f.length = B + 1 := ⟨f.length - 1, by omega⟩
    have e : wrap64 ((f.length : Int) - 1) = B := (wr _ (by omega) (by omega)).trans (by omega)
    have c0 : (f.length : Int) ≥ 2 := by omega
    have c1 : 0 ≤ (B : Int) := by omega
    have c2 : (B : Int) < (f.length : Int) := by omega
    have c3 : (B : Int) ≥ 1 := by omega
    unfold bloom_right.f moraineref12_Is.f
    rw [e, if_pos c3, if_pos c1, if_pos c2, if_pos c0]
    by_cases h1 : rd f B ≥ 1
    · rw [if_pos h1]
      by_cases h3 : rd f B ≤ 30
      · exact Or.inr ⟨by rw [decide_eq_true h3], B, hB, by omega, by omega, h1, h3⟩
      · exact Or.inl ⟨by rw [decide_eq_false h3], by rw [decide_eq_false h3]⟩
    · rw [if_neg h1]
      exact Or.inl ⟨rfl, rfl⟩
  · have e : wrap64 ((f.length : Int) - 1) = (f.length : Int) - 1 := wr _ (by omega) (by omega)
    refine Or.inl ⟨?_, ?_⟩
    · unfold bloom_right.f
      rw [e, if_neg (by omega)]
    · unfold moraineref12_Is.f
      rw [if_neg (by omega)]
theorem asks_all (f : List Int) (key : ByteArray) (bf : Byt f) (hl : f.length + key.size ≤ 1048576) : ∃ (k : Nat) (a b e : Int) (m : Bool), bloom_Full.f k f = some (a, b, e) ∧ moraineref12_Full.f k f = some (a, b, e) ∧ bloom_May.f k f key = some m ∧ moraineref12_May.f k f key = some m := by
  rcases right_cases f (by omega) with ⟨h1, h2⟩ | ⟨h2, B, hB, b0, b1, r0, r1⟩
  · refine ⟨0, 0, 0, 120, true, ?_, ?_, ?_, ?_⟩
    · unfold bloom_Full.f
      rw [h1]; rfl
    · unfold moraineref12_Full.f
      rw [h2]; rfl
    · unfold bloom_May.f
      rw [h1]; rfl
    · unfold moraineref12_May.f
      rw [h2]; rfl
  · obtain ⟨K, hK⟩ : ∃ K : Nat, 90000000 ≤ K := ⟨_, Nat.le_refl _⟩
    have e : wrap64 ((f.length : Int) - 1) = B := (wr _ (by omega) (by omega)).trans (by omega)
    have e8 : wrap64 (8 * (B : Int)) = 8 * (B : Int) := wr _ (by omega) (by omega)
    refine ⟨K, (totb f B 0 : Int), 8 * (B : Int), 0, _, full_good K f B hB bf b0 (by omega) r0 r1 hK, ?_, may_good K f B key hB b0 (by omega) r0 r1 (by omega) (by omega), ?_⟩
    · obtain ⟨k, rfl⟩ : ∃ k, K = k + 8 * B + 1 := ⟨K - 8 * B - 1, by omega⟩
      unfold moraineref12_Full.f
      rw [h2, Option.bind_some, if_pos rfl, e]
      have := reffull_loop f bf B (by omega) (by omega) (8 * B) 0 k 0 (by omega) (by omega) (by omega)
      rw [show ((0 : Nat) : Int) = 0 by rfl, Int.zero_add] at this
      rw [this, show cntc f (8 * B) 0 = totb f B 0 from cntc_totb f B 0]
    · obtain ⟨p, hp⟩ := Int.eq_ofNat_of_zero_le (show 0 ≤ rd f B by omega)
      have hbits := bits_good key (8 * (B : Int)) p (by omega) (by omega) (by omega) K (by omega) (by omega) (by omega)
      have hlen : (keyset (8 * (B : Int)) p key).length = p := kb_length _ _ _ _
      have hrng : ∀ b ∈ keyset (8 * (B : Int)) p key, 0 ≤ b ∧ b < 8 * (B : Int) := fun b hb => kb_rng _ _ (show 0 < 8 * (B : Int) by omega) _ _ b hb
      have c1 : 0 ≤ (B : Int) := by omega
      have c2 : (B : Int) < (f.length : Int) := by omega
      have ep : wrap64 (rd f B) = (p : Int) := (wr _ (by omega) (by omega)).trans hp
      have hp2 : (rd f B).toNat = p := by rw [hp]; rfl
      obtain ⟨k, rfl⟩ : ∃ k, K = k + p + 1 := ⟨K - p - 1, by omega⟩
      unfold moraineref12_May.f
      rw [h2, Option.bind_some, if_pos rfl, e, if_pos c1, if_pos c2, e8, ep, hbits, Option.bind_some, hp2]
      have := refmay_loop f bf B (by omega) (by omega) (keyset (8 * (B : Int)) p key) (by omega) hrng p 0 k (by omega)
      rw [show ((0 : Nat) : Int) = 0 by rfl, List.drop_zero] at this
      exact this
set_option maxHeartbeats 4000000 in
set_option maxRecDepth 100000 in
theorem BloomAsks_calls (k : Nat) (A0 : Option Addr) (c0 : Nat) (l0 : List Int) (key : ByteArray) (w : World) (hr0 : Kd.C (Kd.int .u8) w A0 l0.length l0) (hc0 : l0.length ≤ c0) (hl : l0.length ≤ 140737488355000) (a b e : Int) (m : Bool)
    (h1 : bloom_Full.f k l0 = some (a, b, e)) (h2 : moraineref12_Full.f k l0 = some (a, b, e)) (h3 : bloom_May.f k l0 key = some m) (h4 : moraineref12_May.f k l0 key = some m) :
    Calls Try.prog 6 #[.slice A0 l0.length c0, .string key] w fun e w' => e = .returned (.bool true) ∧ Below w.heap.size w w' := by
  have H1 := Aside0.mk h1
  have H2 := Aside0.mk h2
  have H3 := Aside0.mk h3
  have H4 := Aside0.mk h4
  have HL := Aside0.mk hl
  have HR := Aside0.mk hr0
  have HC := Aside0.mk hc0
  have HN := Aside0.mk (show morainelaw12_names.f = some true from rfl)
  clear h1 h2 h3 h4 hl hr0 hc0
  go_enter Try.func6, Try.ntmps6
  go_wp2_with fail
  (with_reducible refine (morainelaw12_lent.calls _ _ l0 _ HR.out HC.out HL.out).mono ?_)
  rintro e W1 ⟨Ai, ci, rfl, ho, hb⟩
  have BW1 := Aside0.mk hb
  have HIN := Aside0.mk (Kd.R_reads' ho)
  have HP1 := Aside0.mk (C_prefix (ys := [90]) (by simpa using (Kd.R_reads' ho).2.2))
  have HPC := Aside0.mk (show l0.length ≤ ci by have := HIN.out.2.1; omega)
  have BI1 := Aside0.mk (Below.refl W1.heap.size W1)
  clear ho hb
  go_wp2_with fail
  (with_reducible refine (bloom_Full.calls k _ _ l0 a b e _ (Kd.C_below HP1.out BI1.out) HPC.out H1.out).mono ?_)
  rintro e W2 ⟨rfl, hd⟩
  have BW2 := Aside0.mk (below_step BW1.out hd.below)
  have BI2 := Aside0.mk (below_step BI1.out hd.below)
  clear hd
  go_wp2_with fail
  (with_reducible refine (moraineref12_Full.calls k _ _ l0 a b e _ (Kd.C_below HR.out BW2.out) HC.out H2.out).mono ?_)
  rintro e W3 ⟨rfl, hd⟩
  have BW3 := Aside0.mk (below_step BW2.out hd.below)
  have BI3 := Aside0.mk (below_step BI2.out hd.below)
  clear hd
  go_wp2_with fail
  (with_reducible refine (morainelaw12_names.calls true _ HN.out).mono ?_)
  rintro e W4 ⟨rfl, hd⟩
  have BW4 := Aside0.mk (below_step BW3.out hd.below)
  have BI4 := Aside0.mk (below_step BI3.out hd.below)
  clear hd
  go_wp2_with fail
  (with_reducible refine (bloom_May.calls k _ _ l0 key m _ (Kd.C_below HP1.out BI4.out) HPC.out H3.out).mono ?_)
  rintro e W5 ⟨rfl, hd⟩
  have BW5 := Aside0.mk (below_step BW4.out hd)
  have BI5 := Aside0.mk (below_step BI4.out hd)
  clear hd
  go_wp2_with fail
  (with_reducible refine (moraineref12_May.calls k _ _ l0 key m _ (Kd.C_below HR.out BW5.out) HC.out H4.out).mono ?_)
  rintro e W6 ⟨rfl, hd⟩
  have BW6 := Aside0.mk (below_step BW5.out hd)
  have BI6 := Aside0.mk (below_step BI5.out hd)
  clear hd
  go_wp2_with fail
  (with_reducible refine (morainelaw12_kept.calls _ _ l0 _ _ _ (Kd.C_below (by simpa using HIN.out.2.2) BI6.out) HIN.out.2.1 (Kd.C_below HR.out BW6.out) HL.out).mono ?_)
  rintro e W7 ⟨rfl, hd⟩
  have BW7 := Aside0.mk (below_step BW6.out hd.below)
  clear hd
  go_wp2
  go_ret
  exact ⟨by simp, BW7.out⟩
theorem BloomAsks_upto (w : World) (A0 : Option Addr) (c0 : Nat) (l0 : List Int) (hc0 : l0.length ≤ c0) (hr0 : Kd.C (Kd.int .u8) w A0 l0.length l0) (hg0 : ∀ x ∈ l0, (Lit.int .u8 x).wf = true) (key : ByteArray) (hs : key.size ≤ maxLen) (hbulk : (sumBulk (fun _ => 1) l0 + 1) + (key.size + 1) ≤ 1048576) :
    Calls Try.prog 6 #[.slice A0 l0.length c0, .string key] w fun e w' => e = .returned (.bool true) ∧ Below w.heap.size w w' := by
  have n0 := sumBulk_len (fun _ => 1) (fun _ => Nat.le_refl 1) l0
  (try simp only [] at hbulk)
  have bf : Byt l0 := fun x hx => by
    have : 0 ≤ x ∧ x ≤ 255 := by simpa [Lit.wf, IntKind.min, IntKind.max, IntKind.signed, IntKind.bits] using hg0 x hx
    omega
  obtain ⟨k, a, b, e, m, h1, h2, h3, h4⟩ := asks_all l0 key bf (by omega)
  exact BloomAsks_calls k A0 c0 l0 key w hr0 hc0 (by omega) a b e m h1 h2 h3 h4

end Go.Proofs.Yticbfcfpchongaa.G
