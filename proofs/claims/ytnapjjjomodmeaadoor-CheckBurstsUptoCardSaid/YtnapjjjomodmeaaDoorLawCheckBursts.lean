/- Contracts typed by hand: CheckBursts holds of every input within the form's reach -/
import Derived.Test.YtnapjjjomodmeaaDoorProg
import Derived.Below
import Derived.Deep.Draws
import Derived.Deep.AppendLies
import Derived.Maps.AppendAt
import Derived.OwnWalk
import Derived.Laws.BytesArg
import Derived.Laws.MakeOwn
import Derived.Laws.OwnMore
import Derived.Deep.OwnRows
import Derived.Tactics
import Derived.Lib.ConvBytes
import Derived.Laws.Slices
import Derived.WalkKit
import Derived.KernelRfl
import Derived.RowKit3
import Derived.Deep.LoopGhost
import Derived.Deep.QuietTactic
import Derived.BigQuiet
import Derived.WideLaws
import Derived.Deep.DeepCutAuto
import Derived.Deep.CutBlock
import Derived.Deep.RegionHeld3
import Derived.Laws.Rows
import Derived.Lib.AppendStr
import Derived.ArgAppend
import Derived.Laws.IdiomCopy
import Derived.OrdersHeld
import Derived.Laws.BitsLemmas
import Derived.RowKit
import Derived.Test.YtnapjjjomodmeaaDoorWWords
import Derived.Test.YtnapjjjomodmeaaDoorWLast
import Derived.Test.YtnapjjjomodmeaaDoorWTab
import Derived.Test.YtnapjjjomodmeaaDoorWFour
import Derived.Test.YtnapjjjomodmeaaDoorWQPut
import Derived.Test.YtnapjjjomodmeaaDoorWApart
import Derived.Test.YtnapjjjomodmeaaDoorWArr
import Derived.Test.YtnapjjjomodmeaaDoorWZeros
import Derived.Test.YtnapjjjomodmeaaDoorWFoot
import Derived.Test.YtnapjjjomodmeaaDoorWKept
import Derived.Test.YtnapjjjomodmeaaDoorWShare
import Derived.Test.YtnapjjjomodmeaaDoorWN
import Derived.Test.YtnapjjjomodmeaaDoorWFootNe
import Derived.Test.YtnapjjjomodmeaaDoorWAt
import Derived.Test.YtnapjjjomodmeaaDoorWEqStruct
import Derived.Test.YtnapjjjomodmeaaDoorWRepsOne
import Derived.Test.YtnapjjjomodmeaaDoorWInv
import Derived.Test.YtnapjjjomodmeaaDoorWInvWords
import Derived.Test.YtnapjjjomodmeaaDoorWGuard
import Derived.Test.YtnapjjjomodmeaaDoorWNEv
import Derived.Test.YtnapjjjomodmeaaDoorWMore
import Derived.Test.YtnapjjjomodmeaaDoorLawCheckLinear
import Derived.Test.YtnapjjjomodmeaaDoorGx12
namespace Go.Proofs.YtnapjjjomodmeaaDoor.G
open Go.RowKit Go.Proofs.YtnapjjjomodmeaaDoorW.PrintWords Go.Proofs.YtnapjjjomodmeaaDoorW.PrintLast Go.Proofs.YtnapjjjomodmeaaDoorW.PrintMore
attribute [local go_sem] max2_int min2_int max_two min_two max_three min_three max_four min_four
set_option linter.unusedVariables false
set_option linter.unusedSimpArgs false

/-! CheckBursts holds of every input within the form's reach -/
theorem crcB_xor_left (a b : Nat) (l : List Nat) : crcB (a ^^^ b) l = crcB a l ^^^ crcN (8 * l.length) b := by
  rw [crcB_split l (a ^^^ b), crcB_split l a, crcN_xor]
  generalize crcN (8 * l.length) a = x
  generalize crcN (8 * l.length) b = y
  generalize crcB 0 l = z
  rw [Nat.xor_assoc, Nat.xor_comm y z, Nat.xor_assoc]
theorem crcN_two_pow (m k : Nat) (h : k ≤ m) : crcN m (2 ^ k) = crcN (m - k) 1 := by
  have e : m = k + (m - k) := by omega
  conv => lhs; rw [e]
  rw [crcN_add]
  have := crcN_pow k 1
  rw [Nat.mul_one] at this
  rw [this]
theorem toggle : ∀ (l : List Nat) (i q r : Nat) (hi : i < l.length), q < 8 → crcB r (l.set i (l[i] ^^^ 2 ^ q)) = crcB r l ^^^ crcN (8 * (l.length - i) - q) 1
  | x :: t, 0, q, r, _, hq => by
    rw [List.set_cons_zero, crcB_cons, crcB_cons, List.getElem_cons_zero, ← Nat.xor_assoc, crcN_xor, crcB_xor_left, crcN_two_pow 8 q (by omega), ← crcN_add]
    congr 2
    simp only [List.length_cons]
    omega
  | x :: t, i + 1, q, r, hi, hq => by
    have hi' : i < t.length := by simpa using hi
    have ih := toggle t i q (crcN 8 (r ^^^ x)) hi' hq
    rw [List.set_cons_succ, crcB_cons, crcB_cons, List.getElem_cons_succ, ih]
    congr 2
    simp only [List.length_cons]
    omega
theorem shr_u32 (f k : Nat) (hk : k ≤ 32) : shr .u32 (f : Int) (k : Int) = ((f / 2 ^ k : Nat) : Int) := by
  unfold shr
  rw [Int.toNat_natCast, Nat.min_eq_left (by show k ≤ 32; omega)]
  push_cast
  rfl
theorem shl_u8 (q : Nat) (h : q < 8) : shl .u8 1 (q : Int) = ((2 ^ q : Nat) : Int) := by
  have h2 : 2 ^ q < 256 := by
    have : 2 ^ q < 2 ^ 8 := Nat.pow_lt_pow_right (by omega) h
    omega
  unfold shl
  rw [Int.toNat_natCast, Nat.min_eq_left (by show q ≤ 8; omega), Int.one_mul, IntKind.wrap_u8']
  have e : (2 : Int) ^ q = ((2 ^ q : Nat) : Int) := by push_cast; rfl
  rw [e]
  generalize 2 ^ q = z at *
  omega
structure Burst (l c : List Int) (at_ k V : Nat) (turned : Bool) : Prop where
  len : c.length = l.length
  byt : Byt c
  low : V < 2 ^ k
  crc : crcB (inv 0) (natl c) = crcB (inv 0) (natl l) ^^^ crcN (8 * l.length - at_) V
  tur : turned = true ↔ V ≠ 0
theorem burst_end {l c : List Int} {at_ k V : Nat} {turned : Bool} (h : Burst l c at_ k V turned) (hk : k ≤ 32) : ((((ext 0 c : Nat) : Int) != ((ext 0 l : Nat) : Int)) == turned) = true := by
  have hV : V < 4294967296 := by
    have : 2 ^ k ≤ 2 ^ 32 := Nat.pow_le_pow_right (by omega) hk
    have := h.low
    omega
  have hiff : ext 0 c = ext 0 l ↔ V = 0 := by
    unfold ext
    rw [h.crc]
    constructor
    · intro e
      have e1 := inv_inj e
      have e2 : crcN (8 * l.length - at_) V = 0 := by
        have := congrArg (fun z => crcB (inv 0) (natl l) ^^^ z) e1
        simp only [← Nat.xor_assoc, Nat.xor_self, Nat.zero_xor] at this
        exact this
      exact crcN_inj _ hV (by omega) (e2.trans (crcN_zero _).symm)
    · intro e
      rw [e, crcN_zero, Nat.xor_zero]
  have ht := h.tur
  rw [beq_iff_eq, Bool.eq_iff_iff, bne_iff_ne, ht]
  constructor
  · intro a b; exact a (by rw [hiff.2 b])
  · intro a b; exact a (hiff.1 (by omega))
theorem Burst.skip {l c : List Int} {at_ k V : Nat} {turned : Bool} (h : Burst l c at_ k V turned) : Burst l c at_ (k + 1) V turned :=
  ⟨h.len, h.byt, by have := h.low; rw [Nat.pow_succ]; omega, h.crc, h.tur⟩
theorem Burst.turn {l c : List Int} {at_ k V : Nat} {turned : Bool} (h : Burst l c at_ k V turned) (hp : at_ + k < 8 * l.length) :
    Burst l (c.set ((at_ + k) / 8) (bits .xor .u8 (rd c (((at_ + k) / 8 : Nat) : Int)) ((2 ^ ((at_ + k) % 8) : Nat) : Int))) at_ (k + 1) (V ^^^ 2 ^ k) true := by
  have hi : (at_ + k) / 8 < c.length := by rw [h.len]; omega
  have hq : (at_ + k) % 8 < 8 := by omega
  have h2 : 2 ^ ((at_ + k) % 8) < 256 := by
    have : 2 ^ ((at_ + k) % 8) < 2 ^ 8 := Nat.pow_lt_pow_right (by omega) hq
    omega
  have q1 := byt_rd h.byt ((at_ + k) / 8)
  obtain ⟨x1, x2⟩ := xor8 _ ((2 ^ ((at_ + k) % 8) : Nat) : Int) q1.1 q1.2 (Int.natCast_nonneg _) (show ((2 ^ ((at_ + k) % 8) : Nat) : Int) < ((256 : Nat) : Int) from Int.ofNat_lt.2 h2)
  rw [Int.toNat_natCast] at x1 x2
  refine ⟨by rw [List.length_set, h.len], ?_, ?_, ?_, ?_⟩
  · rw [x1]; exact byt_put h.byt _ (by omega) (by omega)
  · refine Nat.xor_lt_two_pow (Nat.lt_of_lt_of_le h.low (Nat.pow_le_pow_right (by omega) (by omega))) ?_
    rw [Nat.pow_succ]
    have : 0 < 2 ^ k := Nat.two_pow_pos k
    omega
  · have hn : (at_ + k) / 8 < (natl c).length := by rw [natl_len]; exact hi
    have ht := toggle (natl c) ((at_ + k) / 8) ((at_ + k) % 8) (inv 0) hn hq
    have e : natl (c.set ((at_ + k) / 8) (bits .xor .u8 (rd c (((at_ + k) / 8 : Nat) : Int)) ((2 ^ ((at_ + k) % 8) : Nat) : Int))) = (natl c).set ((at_ + k) / 8) ((natl c)[(at_ + k) / 8] ^^^ 2 ^ ((at_ + k) % 8)) := by
      rw [natl_at c _ hi hn, x1]
      unfold natl
      rw [List.map_set, Int.toNat_natCast]
    rw [e, ht, h.crc, natl_len, h.len, crcN_xor, crcN_two_pow _ k (by omega), Nat.xor_assoc]
    congr 3
    omega
  · have hb : (V ^^^ 2 ^ k).testBit k = true := by
      rw [Nat.testBit_xor, Nat.testBit_lt_two_pow h.low, Nat.testBit_two_pow, decide_eq_true rfl]
      rfl
    refine ⟨fun _ e => ?_, fun _ => rfl⟩
    rw [e] at hb
    simp at hb
theorem burst_vals (a k n : Nat) (ha : a ≤ 8388608) (hk : k ≤ 32) (hn : n ≤ 1048576) : wrap64 ((a : Int) + (k : Int)) = ((a + k : Nat) : Int) ∧ wrap64 (8 * (n : Int)) = ((8 * n : Nat) : Int) ∧ wrap64 ((k : Int) + 1) = ((k + 1 : Nat) : Int) ∧
    Int.tdiv ((a + k : Nat) : Int) 8 = (((a + k) / 8 : Nat) : Int) ∧ Int.tmod ((a + k : Nat) : Int) 8 = (((a + k) % 8 : Nat) : Int) ∧ wrap64 (((a + k) / 8 : Nat) : Int) = (((a + k) / 8 : Nat) : Int) := by
  refine ⟨(wr _ (by omega) (by omega)).trans (by omega), (wr _ (by omega) (by omega)).trans (by omega), (wr _ (by omega) (by omega)).trans (by omega), ?_, ?_, wr _ (by omega) (by omega)⟩
  · rw [Int.tdiv_eq_ediv_of_nonneg (by omega)]; omega
  · rw [Int.tmod_eq_emod_of_nonneg (by omega)]; omega
theorem bursts_loop (l : List Int) (hb : Byt l) (at_ f : Nat) (hl : l.length ≤ 1048576) (hat : at_ < 8 * l.length) (hf : f < 4294967296) (K : Nat) (hK : l.length + 1 ≤ K) : ∀ (d k V : Nat) (c : List Int) (t : Bool), k + d = 32 → Burst l c at_ k V t →
    morainelaw02_CheckBursts.l0 (K + 2 * d + 1 + 1) l (at_ : Int) (f : Int) c t (k : Int) = some true
  | d, k, V, c, t, hk, hB => by
    have hs1 : ∀ K', K ≤ K' → check_Sum.f K' c = some ((ext 0 c : Nat) : Int) := fun K' h => sum_eq K' c hB.byt (by rw [hB.len]; omega) (by rw [hB.len]; omega)
    have hs2 : ∀ K', K ≤ K' → check_Sum.f K' l = some ((ext 0 l : Nat) : Int) := fun K' h => sum_eq K' l hb (by omega) (by omega)
    have done : ∀ K', K ≤ K' → morainelaw02_CheckBursts.j1 (K' + 1) l (at_ : Int) (f : Int) c t (k : Int) false = some true := fun K' h => by
      rw [morainelaw02_CheckBursts.j1, if_neg Bool.false_ne_true, hs1 K' h, Option.bind_some, hs2 K' h, Option.bind_some, burst_end hB (by omega)]
    match d, hk with
    | 0, hk =>
      rw [morainelaw02_CheckBursts.l0, if_neg (by omega)]
      exact done _ (by omega)
    | d + 1, hk =>
      obtain ⟨e1, e2, e5, e3, e4, e6⟩ := burst_vals at_ k l.length (by omega) (by omega) (by omega)
      have c0 : (k : Int) < 32 := by omega
      have c1 : 0 ≤ (k : Int) := Int.natCast_nonneg _
      have k32 : k ≤ 32 := by omega
      have kd : k + 1 + d = 32 := by omega
      have hle : f / 2 ^ k < 4294967296 := Nat.lt_of_le_of_lt (Nat.div_le_self _ _) hf
      have kk : K + 2 * (d + 1) + 1 = (K + 2 * d + 1 + 1) + 1 := by omega
      have k3 : K ≤ K + 2 * (d + 1) := Nat.le_add_right _ _
      rw [morainelaw02_CheckBursts.l0, if_pos c0, e1, e2]
      by_cases hp : at_ + k < 8 * l.length
      · have hp' : decide (((at_ + k : Nat) : Int) < ((8 * l.length : Nat) : Int)) = true := decide_eq_true (Int.ofNat_lt.2 hp)
        have c2 : 0 ≤ (((at_ + k) / 8 : Nat) : Int) := Int.natCast_nonneg _
        have c3 : (((at_ + k) / 8 : Nat) : Int) < (c.length : Int) := Int.ofNat_lt.2 (by rw [hB.len]; exact Nat.div_lt_of_lt_mul hp)
        have c4 : 0 ≤ (((at_ + k) % 8 : Nat) : Int) := Int.natCast_nonneg _
        have q8 : (at_ + k) % 8 < 8 := Nat.mod_lt _ (by decide)
        rw [hp', kk, morainelaw02_CheckBursts.j1, if_pos rfl, if_pos c1, shr_u32 f k k32, and1 _ hle, e1, e5]
        by_cases hbit : f / 2 ^ k % 2 = 1
        · rw [if_pos (by rw [hbit]; rfl), e3, e4, e6, if_pos c2, if_pos c3, if_pos c4, Int.toNat_natCast, shl_u8 _ q8]
          exact bursts_loop l hb at_ f hl hat hf K hK d (k + 1) _ _ _ kd (hB.turn hp)
        · rw [if_neg (fun e => hbit (by exact_mod_cast e))]
          exact bursts_loop l hb at_ f hl hat hf K hK d (k + 1) _ _ _ kd hB.skip
      · have hp' : decide (((at_ + k : Nat) : Int) < ((8 * l.length : Nat) : Int)) = false := decide_eq_false (fun e => hp (Int.ofNat_lt.1 e))
        rw [hp']
        exact done _ k3
theorem among_eq (x n : Int) (hn : 0 < n) (hn2 : n ≤ 1099511627776) : ∃ t : Nat, (t : Int) < n ∧ morainelaw02_among.f x n = some (t : Int) := by
  have r1 : -n < Int.tmod x n := by
    have := Int.lt_tmod_of_pos x hn
    omega
  have r2 : Int.tmod x n < n := Int.tmod_lt_of_pos x hn
  have e : wrap64 (Int.tmod x n + n) = Int.tmod x n + n := wr _ (by omega) (by omega)
  have h0 : 0 ≤ Int.tmod x n + n := by omega
  refine ⟨((Int.tmod x n + n) % n).toNat, ?_, ?_⟩
  · have := Int.emod_lt_of_pos (Int.tmod x n + n) hn
    have := Int.emod_nonneg (Int.tmod x n + n) (show n ≠ 0 by omega)
    omega
  · unfold morainelaw02_among.f
    rw [if_neg (by omega), e, Int.tmod_eq_emod_of_nonneg h0]
    have := Int.emod_nonneg (Int.tmod x n + n) (show n ≠ 0 by omega)
    congr 1
    omega
theorem CheckBursts_pure (l : List Int) (at_ : Int) (f : Nat) (hb : Byt l) (hf : f < 4294967296) (hl : l.length ≤ 1048576) : ∃ k, morainelaw02_CheckBursts.f k l at_ (f : Int) = some true := by
  refine ⟨l.length + 20 + 2 * 32 + 1 + 1, ?_⟩
  unfold morainelaw02_CheckBursts.f
  rw [works_eq _ (by omega), Option.bind_some, if_pos rfl]
  by_cases h0 : (l.length : Int) = 0
  · rw [if_pos h0]
  · have e2 : wrap64 (8 * (l.length : Int)) = 8 * (l.length : Int) := wr _ (by omega) (by omega)
    obtain ⟨t, ht, hm⟩ := among_eq at_ (8 * (l.length : Int)) (by omega) (by omega)
    have c1 : ([] : List Int).length + l.length < 140737488355328 := by simp; omega
    rw [if_neg h0, e2, hm, Option.bind_some, Option.bind_some, if_pos c1, List.nil_append]
    have := bursts_loop l hb t f hl (by omega) hf (l.length + 20) (by omega) 32 0 0 l false (by omega) ⟨rfl, hb, by simp, by rw [crcN_zero, Nat.xor_zero], by simp⟩
    rw [show ((0 : Nat) : Int) = 0 by rfl] at this
    exact this
theorem CheckBursts_upto (w : World) (A0 : Option Addr) (c0 : Nat) (l0 : List Int) (hc0 : l0.length ≤ c0) (hr0 : Kd.C (Kd.int .u8) w A0 l0.length l0) (hg0 : ∀ x ∈ l0, (Lit.int .u8 x).wf = true) (a1 : Int) (hg1 : (Lit.int .i64 a1).wf = true) (a2 : Int) (hg2 : (Lit.int .u32 a2).wf = true)
    (hbulk : (sumBulk (fun _ => 1) l0 + 1) + (1 + 1) ≤ 1048576) (hTab : TabAt w) :
    Calls Tryd.prog 4 #[.slice A0 l0.length c0, .int .i64 a1, .int .u32 a2] w fun e w' => e = .returned (.bool true) ∧ Below w.heap.size w w' := by
  have n0 := sumBulk_len (fun _ => 1) (fun _ => Nat.le_refl 1) l0
  (try simp only [] at hbulk)
  have q2 := u32_range hg2
  obtain ⟨f, rfl⟩ := Int.eq_ofNat_of_zero_le q2.1
  obtain ⟨k, hk⟩ := CheckBursts_pure l0 a1 f (byt_of_wf hg0) (by omega) (by omega)
  exact morainelaw02_CheckBursts.calls k A0 c0 l0 a1 _ true w hr0 hc0 hk hTab

end Go.Proofs.YtnapjjjomodmeaaDoor.G
