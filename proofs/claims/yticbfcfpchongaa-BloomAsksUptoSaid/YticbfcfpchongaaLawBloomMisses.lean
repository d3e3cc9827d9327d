/- Contracts typed by hand: BloomMisses holds of every input within the form's reach -/
import Derived.Test.YticbfcfpchongaaProg
import Derived.Below
import Derived.Deep.Draws
import Derived.Deep.AppendLies
import Derived.Maps.AppendAt
import Derived.OwnWalk
import Derived.Laws.BytesArg
import Derived.Laws.MakeOwn
import Derived.Laws.OwnMore
import Derived.Deep.OwnRows
import Derived.Tactics
import Derived.Lib.ConvBytes
import Derived.Laws.Slices
import Derived.WalkKit
import Derived.KernelRfl
import Derived.RowKit3
import Derived.Deep.LoopGhost
import Derived.Deep.QuietTactic
import Derived.BigQuiet
import Derived.WideLaws
import Derived.Deep.DeepCutAuto
import Derived.Deep.CutBlock
import Derived.Deep.RegionHeld3
import Derived.Laws.Rows
import Derived.Lib.AppendStr
import Derived.ArgAppend
import Derived.Laws.IdiomCopy
import Derived.OrdersHeld
import Derived.Laws.BitsLemmas
import Derived.RowKit
import Derived.Test.YticbfcfpchongaaWWords
import Derived.Test.YticbfcfpchongaaWLast
import Derived.Test.YticbfcfpchongaaWTab
import Derived.Test.YticbfcfpchongaaWFour
import Derived.Test.YticbfcfpchongaaWQPut
import Derived.Test.YticbfcfpchongaaWApart
import Derived.Test.YticbfcfpchongaaWArr
import Derived.Test.YticbfcfpchongaaWZeros
import Derived.Test.YticbfcfpchongaaWFoot
import Derived.Test.YticbfcfpchongaaWKept
import Derived.Test.YticbfcfpchongaaWShare
import Derived.Test.YticbfcfpchongaaWN
import Derived.Test.YticbfcfpchongaaWFootNe
import Derived.Test.YticbfcfpchongaaWAt
import Derived.Test.YticbfcfpchongaaWEqStruct
import Derived.Test.YticbfcfpchongaaWRepsOne
import Derived.Test.YticbfcfpchongaaWInv
import Derived.Test.YticbfcfpchongaaWInvWords
import Derived.Test.YticbfcfpchongaaWGuard
import Derived.Test.YticbfcfpchongaaWNEv
import Derived.Test.YticbfcfpchongaaWMore
import Derived.Test.YticbfcfpchongaaLawBloomOrder
import Derived.Test.YticbfcfpchongaaGx23
import Derived.Test.YticbfcfpchongaaGx13
namespace Go.Proofs.Yticbfcfpchongaa.G
open Go.RowKit Go.Proofs.YticbfcfpchongaaW.PrintWords Go.Proofs.YticbfcfpchongaaW.PrintLast Go.Proofs.YticbfcfpchongaaW.PrintMore
attribute [local go_sem] max2_int min2_int max_two min_two max_three min_three max_four min_four
set_option linter.unusedVariables false
set_option linter.unusedSimpArgs false

/-! BloomMisses holds of every input within the form's reach -/
/-- the bits of a byte that are set, from the bit j on -/
def cnt (x : Int) : Nat → Nat → Nat
  | 0, _ => 0
  | d + 1, j => (if getv x (j : Int) = true then 1 else 0) + cnt x d (j + 1)
theorem cnt_le (x : Int) : ∀ d j, cnt x d j ≤ d
  | 0, _ => Nat.le_refl _
  | d + 1, j => by
    have := cnt_le x d (j + 1)
    simp only [cnt]
    split <;> omega
theorem cnt_pos (x : Int) : ∀ d j, 0 < cnt x d j ↔ ∃ i, j ≤ i ∧ i < j + d ∧ getv x (i : Int) = true
  | 0, j => by
    simp only [cnt]
    constructor
    · intro h; omega
    · rintro ⟨i, h1, h2, _⟩; omega
  | d + 1, j => by
    have ih := cnt_pos x d (j + 1)
    simp only [cnt]
    constructor
    · intro h
      by_cases hg : getv x (j : Int) = true
      · exact ⟨j, Nat.le_refl _, by omega, hg⟩
      · rw [if_neg hg] at h
        obtain ⟨i, h1, h2, h3⟩ := ih.1 (by omega)
        exact ⟨i, by omega, by omega, h3⟩
    · rintro ⟨i, h1, h2, h3⟩
      by_cases hij : i = j
      · subst hij; rw [if_pos h3]; omega
      · have := ih.2 ⟨i, by omega, by omega, h3⟩
        omega
theorem bit_num (x : Int) (j : Nat) (h0 : 0 ≤ x) (h1 : x < 256) (hj : j < 8) : bits .and .u8 (shr .u8 x (j : Int)) 1 = if getv x (j : Int) = true then 1 else 0 := by
  have e : shr .u8 x (j : Int) = x / 2 ^ ((j : Int) % 8).toNat := by
    rw [show ((j : Int) % 8).toNat = j by omega]
    unfold shr
    rw [Int.toNat_natCast, Nat.min_eq_left (by show j ≤ 8; omega)]
  rw [e]
  unfold getv
  obtain ⟨x, rfl⟩ := Int.eq_ofNat_of_zero_le h0
  generalize ((j : Int) % 8).toNat = z
  have e : (x : Int) / 2 ^ z = ((x / 2 ^ z : Nat) : Int) := by push_cast; rfl
  have hle : x / 2 ^ z ≤ x := Nat.div_le_self _ _
  rw [e, show (1 : Int) = ((1 : Nat) : Int) by rfl, u8_and_nat _ _ (by omega) (by omega), nat_mask1]
  have hq2 : x / 2 ^ z % 2 < 2 := Nat.mod_lt _ (by omega)
  generalize x / 2 ^ z % 2 = q at *
  by_cases h : q = 1
  · subst h; rfl
  · rw [if_neg (by simp only [beq_iff_eq]; omega)]
    have : q = 0 := by omega
    subst this
    rfl
theorem full_inner (x5 x18 x19 : Int) (x7 : Int) (T : List Int) (h0 : 0 ≤ x7) (h1 : x7 < 256) (hw : wrap64 (x19 + 1) = x19 + 1) : ∀ (d j k : Nat) (s : Int), j + d = 8 → 0 ≤ s → s + d ≤ 1099511627776 →
    bloom_Full.l1 (k + d + 1) s x5 x7 T x18 x19 (j : Int) = bloom_Full.l0 k (s + cnt x7 d j) x5 T x18 (x19 + 1)
  | 0, j, k, s, hj, s0, s1 => by
    obtain rfl : j = 8 := by omega
    rw [bloom_Full.l1, if_neg (by omega), hw]
    simp [cnt]
  | d + 1, j, k, s, hj, s0, s1 => by
    have hj8 : j < 8 := by omega
    have hb := bit_num x7 j h0 h1 hj8
    have c1 : (j : Int) < 8 := by omega
    have c2 : 0 ≤ (j : Int) := by omega
    have e5 : wrap64 ((j : Int) + 1) = ((j + 1 : Nat) : Int) := (wr _ (by omega) (by omega)).trans (by omega)
    rw [bloom_Full.l1, if_pos c1, if_pos c2, hb, e5, show k + (d + 1) = k + d + 1 by omega]
    by_cases hg : getv x7 (j : Int) = true
    · rw [if_pos hg, wr 1 (by omega) (by omega), wr (s + 1) (by omega) (by omega)]
      rw [full_inner x5 x18 x19 x7 T h0 h1 hw d (j + 1) k (s + 1) (by omega) (by omega) (by omega)]
      simp only [cnt]
      rw [if_pos hg, show s + 1 + (cnt x7 d (j + 1) : Int) = s + ((1 + cnt x7 d (j + 1) : Nat) : Int) by omega]
    · rw [if_neg hg, wr 0 (by omega) (by omega), wr (s + 0) (by omega) (by omega)]
      rw [full_inner x5 x18 x19 x7 T h0 h1 hw d (j + 1) k (s + 0) (by omega) (by omega) (by omega)]
      simp only [cnt]
      rw [if_neg hg, show s + 0 + (cnt x7 d (j + 1) : Int) = s + ((0 + cnt x7 d (j + 1) : Nat) : Int) by omega]
def totb (f : List Int) : Nat → Nat → Nat
  | 0, _ => 0
  | d + 1, i => cnt (rd f i) 8 0 + totb f d (i + 1)
theorem totb_le (f : List Int) : ∀ d i, totb f d i ≤ 8 * d
  | 0, _ => Nat.le_refl _
  | d + 1, i => by
    have := totb_le f d (i + 1)
    have := cnt_le (rd f i) 8 0
    simp only [totb]
    omega
theorem totb_pos (f : List Int) : ∀ d i, 0 < totb f d i ↔ ∃ c : Int, 8 * (i : Int) ≤ c ∧ c < 8 * ((i + d : Nat) : Int) ∧ bitAt f c = true
  | 0, i => by
    simp only [totb]
    constructor
    · intro h; omega
    · rintro ⟨c, h1, h2, _⟩; omega
  | d + 1, i => by
    have ih := totb_pos f d (i + 1)
    have hc := cnt_pos (rd f i) 8 0
    simp only [totb]
    constructor
    · intro h
      by_cases h2 : 0 < cnt (rd f i) 8 0
      · obtain ⟨j, j0, j1, hj⟩ := hc.1 h2
        refine ⟨8 * (i : Int) + j, by omega, by omega, ?_⟩
        unfold bitAt
        rw [show (8 * (i : Int) + j) / 8 = (i : Int) by omega]
        unfold getv at hj ⊢
        rw [show (8 * (i : Int) + (j : Int)) % 8 = (j : Int) % 8 by omega]
        exact hj
      · obtain ⟨c, h3, h4, h5⟩ := ih.1 (by omega)
        exact ⟨c, by omega, by omega, h5⟩
    · rintro ⟨c, h1, h2, h3⟩
      by_cases hc8 : c / 8 = i
      · have : 0 < cnt (rd f i) 8 0 := hc.2 ⟨(c % 8).toNat, by omega, by omega, by
          unfold bitAt at h3
          rw [hc8] at h3
          unfold getv at h3 ⊢
          rw [show (((c % 8).toNat : Nat) : Int) % 8 = c % 8 by omega]
          exact h3⟩
        omega
      · have := ih.2 ⟨c, by omega, by omega, h3⟩
        omega
theorem full_outer (f T : List Int) (B : Nat) (x5 : Int) (hT : T.length = B) (hB : B ≤ 8388609) (hr : ∀ i : Nat, i < B → rd T i = rd f i) (bf : Byt f) : ∀ (d i k : Nat) (s : Int), i + d = B → 0 ≤ s → s + 8 * d ≤ 1099511627776 →
    bloom_Full.l0 (k + 10 * d + 1) s x5 T (B : Int) (i : Int) = some (s + totb f d i, wrap64 (8 * x5), 0)
  | 0, i, k, s, hi, s0, s1 => by
    rw [bloom_Full.l0, if_neg (by omega)]
    simp [totb]
  | d + 1, i, k, s, hi, s0, s1 => by
    have c1 : (i : Int) < (B : Int) := by omega
    have c2 : 0 ≤ (i : Int) := by omega
    have c3 : (i : Int) < (T.length : Int) := by omega
    have e5 : wrap64 ((i : Int) + 1) = (i : Int) + 1 := wr _ (by omega) (by omega)
    have hrr := rd_rng bf (i : Int)
    have hc := cnt_le (rd f i) 8 0
    rw [show k + 10 * (d + 1) + 1 = ((k + 10 * d + 1) + 8 + 1) + 1 by omega, bloom_Full.l0, if_pos c1, if_pos c2, if_pos c3, hr i (by omega)]
    have := full_inner x5 (B : Int) (i : Int) (rd f i) T hrr.1 hrr.2 e5 8 0 (k + 10 * d + 1) s (by omega) s0 (by omega)
    rw [show ((0 : Nat) : Int) = 0 by rfl] at this
    rw [this]
    have := full_outer f T B x5 hT hB hr bf d (i + 1) k (s + cnt (rd f i) 8 0) (by omega) (by omega) (by omega)
    rw [show ((i + 1 : Nat) : Int) = (i : Int) + 1 by omega] at this
    rw [this]
    simp only [totb]
    rw [show s + (cnt (rd f i) 8 0 : Int) + (totb f d (i + 1) : Int) = s + ((cnt (rd f i) 8 0 + totb f d (i + 1) : Nat) : Int) by omega]
theorem full_good (K : Nat) (f : List Int) (B : Nat) (hf : f.length = B + 1) (bf : Byt f) (b0 : 1 ≤ B) (b1 : B ≤ 8388609) (h0 : 1 ≤ rd f B) (h1 : rd f B ≤ 30) (hK : 90000000 ≤ K) : bloom_Full.f K f = some ((totb f B 0 : Int), 8 * (B : Int), 0) := by
  have e : wrap64 ((f.length : Int) - 1) = B := (wr _ (by omega) (by omega)).trans (by omega)
  have e8 : wrap64 (8 * (B : Int)) = 8 * (B : Int) := wr _ (by omega) (by omega)
  have hr : bloom_right.f f = some true := right_good f B hf b0 (by omega) h0 h1
  have c1 : 0 ≤ (B : Int) := by omega
  have c2 : (B : Int) ≤ (f.length : Int) := by omega
  have hT : (f.take B).length = B := by rw [List.length_take]; omega
  have hrd : ∀ i : Nat, i < B → rd (f.take B) i = rd f i := by
    intro i hi
    unfold rd
    rw [Int.toNat_natCast, List.getD_eq_getElem?_getD, List.getD_eq_getElem?_getD, List.getElem?_take, if_pos hi]
  obtain ⟨k, rfl⟩ : ∃ k, K = k + 10 * B + 1 := ⟨K - 10 * B - 1, by omega⟩
  have := full_outer f (f.take B) B (B : Int) hT b1 hrd bf B 0 k 0 (by omega) (by omega) (by omega)
  unfold bloom_Full.f
  rw [hr, Option.bind_some, if_pos rfl, e, if_pos c1, if_pos c2, Int.toNat_natCast, hT]
  rw [show ((0 : Nat) : Int) = 0 by rfl] at this
  rw [this, e8, Int.zero_add]
theorem misses_loop (l : List ByteArray) (f : List Int) (hl : l.length ≤ 1048576) (hm : ∀ k key, 1048584 ≤ k → key ∈ l → bloom_May.f k f key = some true) : ∀ (d i k : Nat), i + d = l.length → 1048584 ≤ k →
    morainelaw12_BloomMisses.l0 (k + d + 1) l f (i : Int) = morainelaw12_BloomMisses.l0 (k + 1) l f (l.length : Int)
  | 0, i, k, hi, hk => by
    obtain rfl : i = l.length := by omega
    rfl
  | d + 1, i, k, hi, hk => by
    have c1 : (i : Int) < (l.length : Int) := by omega
    have c2 : 0 ≤ (i : Int) := by omega
    have e5 : wrap64 ((i : Int) + 1) = ((i + 1 : Nat) : Int) := (wr _ (by omega) (by omega)).trans (by omega)
    have h := hm (k + d + 1) (rdOf ByteArray.empty l (i : Int)) (by omega) (rdOf_mem l _ c2 c1)
    have ih := misses_loop l f hl hm d (i + 1) k (by omega) hk
    rw [show k + (d + 1) + 1 = (k + d + 1) + 1 by omega, morainelaw12_BloomMisses.l0, if_pos c1, if_pos c2, h, Option.bind_some, if_pos rfl, e5]
    exact ih
theorem BloomMisses_pure (l : List ByteArray) (bits_ : Int) (hb : sumBulk (fun s : ByteArray => s.size + 1) l + 2 ≤ 1048576) : ∃ k, morainelaw12_BloomMisses.f k l bits_ = some true := by
  obtain ⟨t, t0, t1, ht⟩ := among_all bits_ 64 (by omega) (by omega)
  have hlen := (small_of l hb 1048584 (Nat.le_refl _)).2
  have e : wrap64 (1 + t) = 1 + t := wr _ (by omega) (by omega)
  obtain ⟨K, hK⟩ : ∃ K : Nat, 90000000 ≤ K := ⟨_, Nat.le_refl _⟩
  have sm := (small_of l hb (K + l.length + 1) (by omega)).1
  obtain ⟨a, hA⟩ : ∃ a, wrap64 (1 + t) = a := ⟨_, rfl⟩
  have ha : 1 ≤ a ∧ a ≤ 64 := by
    have := e.symm.trans hA
    clear e hA
    omega
  obtain ⟨B, hB, b0, b1, q1, q2, q3, q4⟩ := filt_all l a ha hlen
  have hp := prb_rng a
  have hmake := make_good (K + l.length + 1) l a ha hlen sm
  have hmay : ∀ k key, 1048584 ≤ k → key ∈ l → bloom_May.f k (filt l a) key = some true := by
    intro k key hk hkey
    obtain ⟨s1, s2⟩ := (small_of l hb k hk).1 key hkey
    rw [may_good k (filt l a) B key q1 (by omega) (by omega) (by omega) (by omega) s1 s2]
    congr 1
    rw [List.all_eq_true]
    intro c hc
    rw [q3] at hc
    have hcr := kb_rng (8 * (B : Int)) (rot (hsh key)) (by omega) _ _ c hc
    exact (q4 c hcr.1 hcr.2).2 ⟨key, hkey, hc⟩
  have hfull := full_good K (filt l a) B q1 q2 (by omega) b1 (by omega) (by omega) hK
  have hloop := misses_loop l (filt l a) hlen hmay l.length 0 K (by omega) (by omega)
  have htl := totb_le (filt l a) B 0
  have hpos : 0 < totb (filt l a) B 0 ↔ 0 < l.length := by
    rw [totb_pos]
    constructor
    · rintro ⟨c, c0, c1, hc⟩
      obtain ⟨key, hkey, _⟩ := (q4 c (by omega) (by omega)).1 hc
      exact List.length_pos_of_mem hkey
    · intro h
      obtain ⟨key, hkey⟩ := List.exists_mem_of_length_pos h
      obtain ⟨p, hpp⟩ : ∃ p, (prb a).toNat = p + 1 := ⟨(prb a).toNat - 1, by omega⟩
      have hmem : hsh key % (8 * (B : Int)) ∈ keyset (8 * (B : Int)) (prb a).toNat key := by
        unfold keyset
        rw [hpp]
        exact List.mem_cons_self ..
      have hcr := kb_rng (8 * (B : Int)) (rot (hsh key)) (by omega) _ _ _ hmem
      exact ⟨_, by omega, by omega, (q4 _ hcr.1 hcr.2).2 ⟨key, hkey, hmem⟩⟩
  have e2 : wrap64 (((filt l a).length : Int) - 1) = B := (wr _ (by omega) (by omega)).trans (by omega)
  have e3 : wrap64 (8 * (B : Int)) = 8 * (B : Int) := wr _ (by omega) (by omega)
  have c1 : ¬ (l.length : Int) < (l.length : Int) := by omega
  have c2 : (totb (filt l a) B 0 : Int) ≤ 8 * (B : Int) := by omega
  refine ⟨K + l.length + 1, ?_⟩
  unfold morainelaw12_BloomMisses.f
  rw [works_good _ (by omega), Option.bind_some, if_pos rfl, ht, Option.bind_some, hA, hmake, Option.bind_some, if_pos rfl]
  rw [show ((0 : Nat) : Int) = 0 by rfl] at hloop
  rw [hloop, morainelaw12_BloomMisses.l0, if_neg c1, hfull, Option.bind_some, if_pos rfl, if_pos c2, e2, e3, if_pos rfl]
  congr 1
  rw [beq_iff_eq, Bool.eq_iff_iff]
  simp only [decide_eq_true_eq]
  omega
theorem BloomMisses_upto (w : World) (A0 : Option Addr) (c0 : Nat) (l0 : List ByteArray) (hc0 : l0.length ≤ c0) (hr0 : Kd.C Kd.string w A0 l0.length l0) (hg0 : ∀ x ∈ l0, x.size ≤ maxLen) (a1 : Int) (hg1 : (Lit.int .i64 a1).wf = true) (hbulk : sumBulk (fun s : ByteArray => s.size + 1) l0 + 2 ≤ 1048576) :
    Calls Try.prog 9 #[.slice A0 l0.length c0, .int .i64 a1] w fun e w' => e = .returned (.bool true) ∧ Below w.heap.size w w' := by
  obtain ⟨k, hk⟩ := BloomMisses_pure l0 a1 hbulk
  exact morainelaw12_BloomMisses.calls k A0 c0 l0 a1 true w hr0 hc0 hk

end Go.Proofs.Yticbfcfpchongaa.G
