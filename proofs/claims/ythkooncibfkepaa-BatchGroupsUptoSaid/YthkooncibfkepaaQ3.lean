/- Contracts of functions and plain laws, several texts of the session put together by its program. -/
import Derived.Test.YthkooncibfkepaaProg
import Derived.Below
import Derived.Deep.Draws
import Derived.Deep.AppendLies
import Derived.Maps.AppendAt
import Derived.OwnWalk
import Derived.Laws.BytesArg
import Derived.Laws.MakeOwn
import Derived.Laws.OwnMore
import Derived.Deep.OwnRows
import Derived.Tactics
import Derived.Lib.ConvBytes
import Derived.Laws.Slices
import Derived.WalkKit
import Derived.KernelRfl
import Derived.RowKit3
import Derived.Deep.LoopGhost
import Derived.Deep.QuietTactic
import Derived.BigQuiet
import Derived.WideLaws
import Derived.Deep.DeepCutAuto
import Derived.Deep.CutBlock
import Derived.Deep.RegionHeld3
import Derived.Laws.Rows
import Derived.Lib.AppendStr
import Derived.ArgAppend
import Derived.Laws.IdiomCopy
import Derived.OrdersHeld
import Derived.Laws.BitsLemmas
import Derived.RowKit
import Derived.Test.YthkooncibfkepaaWWords
import Derived.Test.YthkooncibfkepaaWLast
import Derived.Test.YthkooncibfkepaaWTab
import Derived.Test.YthkooncibfkepaaWFour
import Derived.Test.YthkooncibfkepaaWQPut
import Derived.Test.YthkooncibfkepaaWApart
import Derived.Test.YthkooncibfkepaaWArr
import Derived.Test.YthkooncibfkepaaWZeros
import Derived.Test.YthkooncibfkepaaWFoot
import Derived.Test.YthkooncibfkepaaWKept
import Derived.Test.YthkooncibfkepaaWShare
import Derived.Test.YthkooncibfkepaaWN
import Derived.Test.YthkooncibfkepaaWFootNe
import Derived.Test.YthkooncibfkepaaWAt
import Derived.Test.YthkooncibfkepaaWEqStruct
import Derived.Test.YthkooncibfkepaaWRepsOne
import Derived.Test.YthkooncibfkepaaWInv
import Derived.Test.YthkooncibfkepaaWInvWords
import Derived.Test.YthkooncibfkepaaWGuard
import Derived.Test.YthkooncibfkepaaWNEv
import Derived.Test.YthkooncibfkepaaWMore
import Derived.Test.YthkooncibfkepaaQ2
import Derived.Lib.QuoteBits
import Derived.Test.YthkooncibfkepaaQ0
import Derived.Test.YthkooncibfkepaaRows
import Derived.Deep.Slices
import Derived.Deep.Fields
import Derived.ChangeSame
import Derived.Deep.Strs
import Derived.Lib.SmallJoins
import Derived.Test.YthkooncibfkepaaQ1

/- Contracts typed by hand: plain laws of reading a batch: the reference reads as the program does -/
namespace Go.Proofs.Ythkooncibfkepaa.G
open Go.RowKit Go.Proofs.YthkooncibfkepaaW.PrintWords Go.Proofs.YthkooncibfkepaaW.PrintLast Go.Proofs.YthkooncibfkepaaW.PrintMore
attribute [local go_sem] max2_int min2_int max_two min_two max_three min_three max_four min_four
set_option linter.unusedVariables false
set_option linter.unusedSimpArgs false

/-! plain laws of reading a batch: the reference reads as the program does -/
theorem i64_or_small (a b : Nat) (ha : a < 4294967296) (hb : b < 4294967296) : bits .or .i64 (a : Int) (b : Int) = ((a ||| b : Nat) : Int) := by
  have hx : a ||| b < 2 ^ 32 := Nat.or_lt_two_pow (by omega) (by omega)
  show IntKind.i64.wrap ((BitVec.ofInt 64 (a : Int) ||| BitVec.ofInt 64 (b : Int)).toNat : Int) = _
  rw [BitVec.toNat_or, ofInt_u64 a (by omega), ofInt_u64 b (by omega)]
  exact Lib.wrap_i64_small _ (by omega)
theorem group28 {v c : Int} {j : Nat} (h : Fits v j) (hj : j ≤ 3) (c0 : 0 ≤ c) (c1 : c < 128) :
    bits .or .i64 v (shl .i64 c ((7 * j : Nat) : Int)) = up v c j ∧ Fits (up v c j) (j + 1) ∧ 0 ≤ up v c j ∧ up v c j < 268435456 := by
  have hg := group7 h (by omega) c0 c1
  have hf := hg.2.2.1
  have hp : (2 : Int) ^ (7 * (j + 1)) ≤ 268435456 := by
    have h1 : (2 : Nat) ^ (7 * (j + 1)) ≤ 2 ^ 28 := Nat.pow_le_pow_right (by decide) (by omega)
    have h2 : (2 : Nat) ^ 28 = 268435456 := by decide
    have h3 : (((2 : Nat) ^ (7 * (j + 1)) : Nat) : Int) = (2 : Int) ^ (7 * (j + 1)) := by rw [Int.natCast_pow]; rfl
    omega
  refine ⟨?_, hf, hf.1, Int.lt_of_lt_of_le hf.2 hp⟩
  have hlt := Int.lt_of_lt_of_le hf.2 hp
  unfold up at hlt ⊢
  obtain ⟨v, rfl⟩ := Int.eq_ofNat_of_zero_le h.1
  obtain ⟨c, rfl⟩ := Int.eq_ofNat_of_zero_le c0
  have hv : v < 2 ^ (7 * j) := by exact_mod_cast h.2
  have e2 : ((c : Int) * 2 ^ (7 * j)) = ((2 ^ (7 * j) * c : Nat) : Int) := by rw [Int.natCast_mul, Int.natCast_pow, Int.mul_comm]; rfl
  rw [e2] at hlt ⊢
  have e4 : shl .i64 (c : Int) ((7 * j : Nat) : Int) = ((2 ^ (7 * j) * c : Nat) : Int) := by
    unfold shl
    rw [Int.toNat_natCast, Nat.min_eq_left (show 7 * j ≤ IntKind.i64.bits by simp [IntKind.bits]; omega), e2]
    exact Lib.wrap_i64_small _ (by omega)
  rw [e4, i64_or_small v _ (by omega) (by omega), Nat.or_comm, ← Nat.two_pow_add_eq_or_of_lt hv c]
  omega
/-- what the reference makes of a length that was read -/
def fin (l : List Int) (most : Int) (r : Int × Int × Int) : ByteArray × Int :=
  if r.2.2 = 0 then (if r.1 > most then (⟨#[]⟩, -1) else if r.1 > (l.length : Int) - r.2.1 then (⟨#[]⟩, -1) else (strOfNums ((l.take (r.2.1 + r.1).toNat).drop r.2.1.toNat), r.2.1 + r.1)) else (⟨#[]⟩, -1)
theorem fin_eq (l : List Int) (most n w : Int) (hn0 : 0 ≤ n) (hn1 : n ≤ l.length) (hw0 : 0 ≤ w) (hw1 : w < 268435456) (hl : l.length ≤ 1099511627776) :
    (if w > most then (some ((⟨#[]⟩ : ByteArray), (-1 : Int))) else (if w > (wrap64 ((l.length : Int) - n)) then (some ((⟨#[]⟩ : ByteArray), (-1))) else (if 0 ≤ n then (if n ≤ (wrap64 (n + w)) then (if (wrap64 (n + w)) ≤ (l.length : Int) then (some (strOfNums ((l.take ((wrap64 (n + w)) : Int).toNat).drop (n : Int).toNat), wrap64 (n + w))) else (none)) else (none)) else (none)))) = some (fin l most (w, n, 0)) := by
  have e1 : wrap64 ((l.length : Int) - n) = (l.length : Int) - n := by unfold wrap64; omega
  have e2 : wrap64 (n + w) = n + w := by unfold wrap64; omega
  unfold fin
  rw [e1, e2]
  simp only [if_true]
  by_cases h1 : w > most
  · rw [if_pos h1, if_pos h1]
  · rw [if_neg h1, if_neg h1]
    by_cases h2 : w > (l.length : Int) - n
    · rw [if_pos h2, if_pos h2]
    · rw [if_neg h2, if_neg h2, if_pos hn0, if_pos (by omega), if_pos (by omega)]
theorem go_big (p : Int) (cs : List Int) (v w n e most : Int) (l : List Int) (hv : Fits v 4) (hb : Bytes cs) (hm : most < 268435456) (h : codec_Varint.go p cs 4 v = (w, n, e)) : fin l most (w, n, e) = (⟨#[]⟩, -1) := by
  unfold fin
  by_cases he : e = 0
  · subst he
    obtain ⟨u, u0, u1, hw, _⟩ := go_was p cs 4 v w n (by omega) hv hb h
    have : (1 : Int) ≤ u := by rcases u1 with h | h; omega; exact h
    have hv0 := hv.1
    have hbig : w > most := by
      rw [hw]
      unfold up
      rw [show (2 : Int) ^ (7 * 4) = 268435456 by decide]
      omega
    simp only [if_true]
    rw [if_pos hbig]
  · simp only []
    rw [if_neg he]
theorem refread_go (l : List Int) (p most : Int) (h0 : 0 ≤ p) (hb : Bytes l) (hl : l.length ≤ 1099511627776) (hm1 : most < 268435456) : ∀ (d k j : Nat) (v : Int), j + d = 4 → p + j ≤ l.length → Fits v j → 2 * d + 2 ≤ k →
    moraineref04_read.l0 k l (p + j) most v ((7 * j : Nat) : Int) = some (fin l most (codec_Varint.go p (l.drop (p.toNat + j)) j v)) := by
  intro d
  induction d with
  | zero =>
    intro k j v hj hp hv hk
    obtain ⟨k, rfl⟩ : ∃ m, k = m + 2 := ⟨k - 2, by omega⟩
    obtain rfl : j = 4 := by omega
    obtain ⟨⟨w, n, e⟩, hr⟩ : ∃ r, codec_Varint.go p (l.drop (p.toNat + 4)) 4 v = r := ⟨_, rfl⟩
    rw [hr, go_big p _ v w n e most l hv (hb.drop _) hm1 hr]
    simp only [moraineref04_read.l0]
    have hd : decide (((7 * 4 : Nat) : Int) > 21) = true := by decide
    rw [hd]
    split <;> simp only [moraineref04_read.j1, if_true]
  | succ d ih =>
    intro k j v hj hp hv hk
    obtain ⟨k, rfl⟩ : ∃ m, k = m + 2 := ⟨k - 2, by omega⟩
    by_cases he : p + j = (l.length : Int)
    · have hn : l.drop (p.toNat + j) = [] := List.drop_eq_nil_of_le (by omega)
      rw [hn]
      simp only [moraineref04_read.l0, codec_Varint.go]
      rw [if_pos (by omega)]
      simp only [moraineref04_read.j1, if_true]
      rfl
    · have hlt : p + (j : Int) < l.length := by omega
      have hc := rd_byte hb (p + j) (by omega) hlt
      have hm : Int.tmod (rd l (p + j)) 128 = rd l (p + j) % 128 := Int.tmod_eq_emod_of_nonneg hc.1
      have hd : decide (((7 * j : Nat) : Int) > 21) = false := decide_eq_false (by omega)
      have ew : wrap64 (rd l (p + j)) = rd l (p + j) := by unfold wrap64; omega
      have e1 : wrap64 (p + (j : Int) + 1) = p + ((j + 1 : Nat) : Int) := by unfold wrap64; omega
      have e7 : wrap64 (((7 * j : Nat) : Int) + 7) = ((7 * (j + 1) : Nat) : Int) := by unfold wrap64; omega
      rw [drop_at l p j h0 hlt]
      simp only [moraineref04_read.l0]
      rw [if_neg (by omega), hd]
      simp only [moraineref04_read.j1]
      rw [if_neg (by decide), if_pos (by omega), if_pos hlt, if_pos (by omega), ew, e1, e7, hm]
      generalize rd l (p + j) = c at *
      have hg := group28 (c := c % 128) hv (by omega) (by omega) (by omega)
      rw [hg.1]
      have hfin := fun w (h1 : 0 ≤ w) h2 => fin_eq l most (p + ((j + 1 : Nat) : Int)) w (by omega) (by omega) h1 h2 hl
      rw [hfin _ hg.2.2.1 hg.2.2.2]
      simp only [codec_Varint.go]
      rw [if_neg (show ¬ (j = 9 ∧ 1 < c) from fun q => by omega)]
      by_cases h128 : c < 128
      · have hmod : c % 128 = c := by omega
        have hu := (group7 hv (by omega) hc.1 h128).1
        rw [if_pos h128, hmod]
        by_cases hz : c = 0
        · rw [if_pos hz]
          by_cases hj0 : 0 < j
          · rw [if_pos (show ((7 * j : Nat) : Int) > 0 by omega), if_pos (show c = 0 ∧ 0 < j from ⟨hz, hj0⟩)]
            rfl
          · rw [if_neg (show ¬ ((7 * j : Nat) : Int) > 0 by omega), if_neg (show ¬ (c = 0 ∧ 0 < j) from fun q => hj0 q.2), if_pos h128, hu, show p + ((j + 1 : Nat) : Int) = p + (j : Int) + 1 by omega]
        · rw [if_neg hz, if_neg (show ¬ (c = 0 ∧ 0 < j) from fun q => hz q.1), if_pos h128, hu, show p + ((j + 1 : Nat) : Int) = p + (j : Int) + 1 by omega]
      · rw [if_neg h128, if_neg (show ¬ (c = 0 ∧ 0 < j) from fun q => h128 (by omega)), if_neg h128, and127 c hc.1 hc.2, (group7 (c := c % 128) hv (by omega) (by omega) (by omega)).1]
        exact ih k (j + 1) (up v (c % 128) j) (by omega) (by omega) hg.2.1 (by omega)
theorem refread_eq (l : List Int) (p most : Int) (k : Nat) (h0 : 0 ≤ p) (hp : p ≤ l.length) (hb : Bytes l) (hl : l.length ≤ 1099511627776) (hm1 : most < 268435456) (hk : 10 ≤ k) :
    moraineref04_read.f k l p most = some (if (txt l p).2.2 = 0 ∧ ((txt l p).1.size : Int) ≤ most then ((txt l p).1, (txt l p).2.1) else (⟨#[]⟩, -1)) := by
  have h := refread_go l p most h0 hb hl hm1 4 k 0 0 rfl (by omega) fits0 (by omega)
  have e0 : p + ((0 : Nat) : Int) = p := by omega
  rw [e0] at h
  unfold moraineref04_read.f
  rw [show ((7 * 0 : Nat) : Int) = 0 from rfl] at h
  refine h.trans ?_
  congr 1
  have ht := (txt_eq l p hb hl).1
  obtain ⟨v, n, e, hv, hh⟩ := varint_some l p hb (by omega)
  have hgo : codec_Varint.go p (l.drop (p.toNat + 0)) 0 0 = (v, n, e) := by
    have := hv
    unfold codec_Varint.f at this
    rw [if_neg (by omega), if_neg (by omega), if_pos (by omega)] at this
    exact Option.some.inj this
  rw [hgo]
  unfold codec_Text.f at ht
  rw [hv, Option.bind_some] at ht
  unfold fin
  rcases hh with ⟨rfl, v0, v1, p0, n0, n1⟩ | ⟨he, _, _, rfl, rfl⟩
  · simp only [if_true] at ht ⊢
    rw [if_pos v0, if_pos (by omega), if_pos n1, if_pos (by omega)] at ht
    by_cases h2 : v > (l.length : Int) - n
    · rw [if_pos h2] at ht
      have ht2 := Option.some.inj ht
      rw [← ht2]
      rw [if_neg (show ¬ ((10 : Int) = 0 ∧ _) from fun q => by omega)]
      by_cases h3 : v > most
      · rw [if_pos h3]
      · rw [if_neg h3, if_pos h2]
    · rw [if_neg h2] at ht
      have ht2 := Option.some.inj ht
      rw [← ht2]
      have hz : ((strOfNums ((l.take (n + v).toNat).drop n.toNat)).size : Int) = v := by
        rw [nums_size, List.length_drop, List.length_take]
        omega
      simp only [hz]
      by_cases h3 : v > most
      · rw [if_pos h3, if_neg (fun q => by omega)]
      · rw [if_neg h3, if_neg h2, if_pos ⟨trivial, by omega⟩]
  · simp only [] at ht ⊢
    rw [if_neg he] at ht ⊢
    have ht2 := Option.some.inj ht
    rw [← ht2]
    rw [if_neg (fun q => he q.1)]
theorem may_long1 (x : Op04) (h : (x.f1.size : Int) > 1024) : mayB x = false := by
  unfold mayB
  rw [if_neg (by omega), if_pos h]
theorem may_long2 (x : Op04) (h : (x.f2.size : Int) > 65536) (h0 : x.f0 ≠ 0) : mayB x = false := by
  unfold mayB
  by_cases h1 : (x.f1.size : Int) < 1
  · rw [if_pos h1]
  · rw [if_neg h1]
    by_cases h2 : (x.f1.size : Int) > 1024
    · rw [if_pos h2]
    · rw [if_neg h2, if_neg h0]
      by_cases h3 : x.f0 = 1
      · rw [if_pos h3]; exact decide_eq_false (by omega)
      · rw [if_neg h3]
        by_cases h4 : x.f0 = 2
        · rw [if_pos h4, if_neg (by omega)]
        · rw [if_neg h4]
theorem May_eq_any (k : Nat) (x : Op04) (hk : 1 ≤ k) : moraineref04_May.f k x.f0 x.f1 x.f2 = some (mayB x) := by
  obtain ⟨m, rfl⟩ : ∃ m, k = m + 1 := ⟨k - 1, by omega⟩
  exact May_eq m x
/-- what the reference's op answers -/
def opR (l : List Int) (p : Int) : Int × ByteArray × ByteArray × Int := if (rdR l p).2.2 = true then ((rdR l p).1.f0, (rdR l p).1.f1, (rdR l p).1.f2, (rdR l p).2.1) else (0, ⟨#[]⟩, ⟨#[]⟩, -1)
theorem refop_eq (l : List Int) (p : Int) (k : Nat) (h0 : 0 ≤ p) (hb : Bytes l) (hl : l.length ≤ 1099511627776) (hk : 11 ≤ k) : moraineref04_op.f k l p = some (opR l p) := by
  unfold moraineref04_op.f opR
  by_cases c1 : p ≥ (l.length : Int)
  · have er : (rdR l p).2.2 = false := by unfold rdR; rw [if_pos c1]
    rw [if_pos c1, er, if_neg (by decide)]
  · have ew : wrap64 (p + 1) = p + 1 := by unfold wrap64; omega
    have hc := rd_byte hb p h0 (by omega)
    have ec : wrap64 (rd l p) = rd l p := by unfold wrap64; omega
    rw [if_neg c1, if_pos h0, if_pos (by omega), ew, ec, refread_eq l (p + 1) 1024 k (by omega) (by omega) hb hl (by omega) (by omega), Option.bind_some]
    obtain ⟨k, rfl⟩ : ∃ m, k = m + 1 := ⟨k - 1, by omega⟩
    have ht := (txt_eq l (p + 1) hb hl).2
    obtain ⟨s1, n1, z1, e1⟩ : ∃ s n z, txt l (p + 1) = (s, n, z) := ⟨_, _, _, rfl⟩
    have er : rdR l p = (if z1 ≠ 0 then (⟨0, ⟨#[]⟩, ⟨#[]⟩⟩, 0, false) else if rd l p = 0 then (⟨0, s1, ⟨#[]⟩⟩, n1, mayB ⟨0, s1, ⟨#[]⟩⟩)
        else if (txt l n1).2.2 ≠ 0 then (⟨rd l p, s1, (txt l n1).1⟩, (txt l n1).2.1, false) else (⟨rd l p, s1, (txt l n1).1⟩, (txt l n1).2.1, mayB ⟨rd l p, s1, (txt l n1).1⟩)) := by
      unfold rdR; rw [if_neg c1, e1]
    rw [e1] at ht ⊢
    simp only [] at ht
    by_cases c2 : z1 = 0
    · rw [if_neg (by omega)] at er
      have hn1 : 0 ≤ n1 ∧ n1 ≤ l.length := by rcases ht with h | h; exact ⟨by omega, by omega⟩; exact absurd c2 h.1
      by_cases c3 : (s1.size : Int) ≤ 1024
      · rw [if_pos (show z1 = 0 ∧ (s1.size : Int) ≤ 1024 from ⟨c2, c3⟩)]
        dsimp only []
        rw [if_pos (show n1 ≥ 0 by omega)]
        simp only [moraineref04_op.j0]
        by_cases c4 : rd l p = 0
        · rw [if_pos c4] at er
          rw [c4, if_neg (by decide), if_neg (by omega), May_eq_any k ⟨0, s1, ⟨#[]⟩⟩ (by omega), Option.bind_some, er]
          by_cases c5 : mayB ⟨0, s1, ⟨#[]⟩⟩ = true
          · rw [if_pos c5, if_pos c5]
          · rw [if_neg c5, if_neg c5]
        · rw [if_neg c4] at er
          rw [if_pos (by simpa using c4), refread_eq l n1 65536 k hn1.1 hn1.2 hb hl (by omega) (by omega), Option.bind_some]
          have ht2 := (txt_eq l n1 hb hl).2
          obtain ⟨s2, n2, z2, e2⟩ : ∃ s n z, txt l n1 = (s, n, z) := ⟨_, _, _, rfl⟩
          rw [e2] at ht2 er ⊢
          simp only [] at ht2 er
          by_cases c6 : z2 = 0
          · rw [if_neg (by omega)] at er
            have hn2 : 0 ≤ n2 := by rcases ht2 with h | h; omega; exact absurd c6 h.1
            by_cases c7 : (s2.size : Int) ≤ 65536
            · rw [if_pos (show z2 = 0 ∧ (s2.size : Int) ≤ 65536 from ⟨c6, c7⟩)]
              dsimp only []
              rw [if_neg (by omega), May_eq_any k ⟨rd l p, s1, s2⟩ (by omega), Option.bind_some, er]
              by_cases c5 : mayB ⟨rd l p, s1, s2⟩ = true
              · rw [if_pos c5, if_pos c5]
              · rw [if_neg c5, if_neg c5]
            · rw [if_neg (show ¬ (z2 = 0 ∧ (s2.size : Int) ≤ 65536) from fun q => c7 q.2)]
              dsimp only []
              rw [if_pos (by omega), er, if_neg (by simp [may_long2 ⟨rd l p, s1, s2⟩ (by simp only []; omega) c4])]
          · rw [if_pos (by omega)] at er
            rw [if_neg (show ¬ (z2 = 0 ∧ (s2.size : Int) ≤ 65536) from fun q => c6 q.1)]
            dsimp only []
            rw [if_pos (by omega), er, if_neg (by simp)]
      · rw [if_neg (show ¬ (z1 = 0 ∧ (s1.size : Int) ≤ 1024) from fun q => c3 q.2)]
        dsimp only []
        rw [if_neg (by omega)]
        simp only [moraineref04_op.j0]
        rw [if_neg (by decide), if_pos (by omega), er]
        have hm := fun c s => may_long1 ⟨c, s1, s⟩ (by simp only []; omega)
        rw [if_neg]
        split
        · simp [hm]
        · split
          · simp
          · simp [hm]
    · rw [if_pos (by omega)] at er
      rw [if_neg (show ¬ (z1 = 0 ∧ (s1.size : Int) ≤ 1024) from fun q => c2 q.1)]
      dsimp only []
      rw [if_neg (by omega)]
      simp only [moraineref04_op.j0]
      rw [if_neg (by decide), if_pos (by omega), er, if_neg (by simp)]
theorem walked_loop (l : List Int) (seq s cnt : Int) (k0 : Nat) (hk0 : 11 ≤ k0) (hb : Bytes l) (hl : l.length ≤ 1048576) (hc : cnt < 4294967296) : ∀ (d i k : Nat) (p : Int) (acc : List Op04), 0 ≤ p → p ≤ l.length → (acc.length : Int) + d = cnt → k0 + (l.length - p.toNat) + 1 ≤ k →
    moraineref04_Walked.l0 k l seq cnt p acc = some (seq, acc ++ opsOf04 (gos l s d i p), endAt p (gos l s d i p)) := by
  intro d
  induction d with
  | zero =>
    intro i k p acc h0 hp ha hk
    obtain ⟨k, rfl⟩ : ∃ m, k = m + 1 := ⟨k - 1, by omega⟩
    simp only [moraineref04_Walked.l0]
    rw [if_neg (by omega)]
    simp [gos, opsOf04, endAt]
  | succ d ih =>
    intro i k p acc h0 hp ha hk
    obtain ⟨k, rfl⟩ : ∃ m, k = m + 1 := ⟨k - 1, by omega⟩
    simp only [moraineref04_Walked.l0]
    rw [if_pos (by omega), refop_eq l p k h0 hb (by omega) (by omega), Option.bind_some]
    unfold opR gos
    by_cases hr : (rdR l p).2.2 = true
    · have hn := rdR_next l hb (by omega) p hr
      rw [if_pos hr, if_pos hr]
      simp only []
      rw [if_neg (by omega), if_pos (by omega)]
      rw [ih (i + 1) k (rdR l p).2.1 (acc ++ [(rdR l p).1]) hn.1 hn.2.2 (by rw [List.length_append]; simp only [List.length_cons, List.length_nil]; omega) (by omega), endAt_cons]
      simp only [opsOf04, List.map_cons, List.append_assoc, List.cons_append, List.nil_append]
    · rw [if_neg hr, if_neg hr]
      simp only []
      rw [if_pos (by omega)]
      simp [opsOf04, endAt]
theorem or_byte8 (v b : Int) (v0 : 0 ≤ v) (v1 : v < 72057594037927936) (b0 : 0 ≤ b) (b1 : b ≤ 255) : bits .or .u64 (IntKind.u64.wrap (v * 256)) (IntKind.u64.wrap b) = b + 256 * v := by
  obtain ⟨v, rfl⟩ := Int.eq_ofNat_of_zero_le v0
  obtain ⟨b, rfl⟩ := Int.eq_ofNat_of_zero_le b0
  have e1 : IntKind.u64.wrap ((v : Int) * 256) = ((2 ^ 8 * v : Nat) : Int) := by rw [Go.IntKind.wrap_u64]; omega
  have e2 : IntKind.u64.wrap (b : Int) = (b : Int) := by rw [Go.IntKind.wrap_u64]; omega
  rw [e1, e2, u64_or_nat _ b (by omega) (by omega), ← Nat.two_pow_add_eq_or_of_lt (show b < 2 ^ 8 by omega) v]
  omega
theorem number_loop (l : List Int) (p n : Nat) (hb : Bytes l) (hn : n ≤ 8) (hp : p + n ≤ l.length) (hl : l.length ≤ 1099511627776) : ∀ (m k : Nat) (v : Int), m ≤ n → v = le (seg l (p + m) (n - m)) → m + 1 ≤ k →
    moraineref04_number.l0 k l (p : Int) v ((m : Int) - 1) = some (le (seg l p n)) := by
  intro m
  induction m with
  | zero =>
    intro k v hm hv hk
    obtain ⟨k, rfl⟩ : ∃ m, k = m + 1 := ⟨k - 1, by omega⟩
    simp only [moraineref04_number.l0]
    rw [if_neg (by omega), hv]
    rfl
  | succ m ih =>
    intro k v hm hv hk
    obtain ⟨k, rfl⟩ : ∃ m, k = m + 1 := ⟨k - 1, by omega⟩
    have ei : wrap64 ((p : Int) + (((m + 1 : Nat) : Int) - 1)) = ((p + m : Nat) : Int) := by unfold wrap64; omega
    have ed : wrap64 ((((m + 1 : Nat) : Int) - 1) - 1) = (m : Int) - 1 := by unfold wrap64; omega
    have hc := rd_byte hb ((p + m : Nat) : Int) (by omega) (by omega)
    have hr := le_range (seg l (p + (m + 1)) (n - (m + 1))) (seg_bytes hb _ _)
    have hsl := seg_len l (p + (m + 1)) (n - (m + 1)) (by omega)
    have hv1 : v < 72057594037927936 := by
      have h1 : (2 : Nat) ^ (8 * (n - (m + 1))) ≤ 2 ^ 56 := Nat.pow_le_pow_right (by decide) (by omega)
      have h2 : (2 : Nat) ^ 56 = 72057594037927936 := by decide
      have h3 : (((2 : Nat) ^ (8 * (n - (m + 1))) : Nat) : Int) = (2 : Int) ^ (8 * (n - (m + 1))) := by rw [Int.natCast_pow]; rfl
      rw [hsl] at hr
      omega
    simp only [moraineref04_number.l0]
    rw [if_pos (by omega), ei, if_pos (by omega), if_pos (by omega), ed, or_byte8 v _ (by omega) hv1 hc.1 hc.2]
    refine ih k _ (by omega) ?_ (by omega)
    rw [show n - m = (n - (m + 1)) + 1 by omega, seg_cons l (p + m) _ (by omega)]
    simp only [le]
    rw [hv]
    rfl
theorem refnumber_eq (l : List Int) (p n k : Nat) (hb : Bytes l) (hn : n ≤ 8) (hn0 : 1 ≤ n) (hp : p + n ≤ l.length) (hl : l.length ≤ 1099511627776) (hk : 10 ≤ k) : moraineref04_number.f k l (p : Int) (n : Int) = some (le (seg l p n)) := by
  unfold moraineref04_number.f
  rw [show wrap64 ((n : Int) - 1) = (n : Int) - 1 by unfold wrap64; omega]
  refine number_loop l p n hb hn hp hl n k 0 (Nat.le_refl _) ?_ (by omega)
  rw [Nat.sub_self]
  rfl
theorem refwalked_eq (l : List Int) (k : Nat) (hb : Bytes l) (hl : l.length ≤ 1048576) (hk : 12 + l.length ≤ k) :
    moraineref04_Walked.f k l = some (if l.length < 12 then (0, [], 0) else (le (seg l 0 8), opsOf04 (goneL l), endAt 12 (goneL l))) := by
  unfold moraineref04_Walked.f
  by_cases h12 : l.length < 12
  · rw [if_pos (by omega), if_pos h12]
  · rw [if_neg (by omega), if_neg h12]
    have e8 := refnumber_eq l 0 8 k hb (by omega) (by omega) (by omega) (by omega) (by omega)
    have e4 := refnumber_eq l 8 4 k hb (by omega) (by omega) (by omega) (by omega) (by omega)
    have h4 := seg4_small l hb
    have e8' : moraineref04_number.f k l 0 8 = some (le (seg l 0 8)) := e8
    have e4' : moraineref04_number.f k l 8 4 = some (le (seg l 8 4)) := e4
    have ew : wrap64 (le (seg l 8 4)) = le (seg l 8 4) := by unfold wrap64; omega
    rw [e8', Option.bind_some, e4', Option.bind_some, ew]
    rw [walked_loop l (le (seg l 0 8)) (le (seg l 0 8)) (le (seg l 8 4)) 11 (by omega) hb hl h4.2 (le (seg l 8 4)).toNat 0 k 12 [] (by omega) (by omega) (by simp only [List.length_nil]; omega) (by simp only [Int.reduceToNat]; omega)]
    unfold goneL
    rw [if_neg h12]
    rfl
theorem refdecode_eq (l : List Int) (k : Nat) (hb : Bytes l) (hl : l.length ≤ 1048576) (hk : 12 + l.length ≤ k) : moraineref04_Decode.f k l = some (decB l) := by
  unfold moraineref04_Decode.f decB
  rw [if_neg (by omega), refwalked_eq l k hb hl hk, Option.bind_some]
  by_cases h12 : l.length < 12
  · rw [if_pos h12, if_pos h12]
    simp only []
    rw [if_pos (by decide)]
  · rw [if_neg h12, if_neg h12]
    simp only []
    have hG : goneL l = gos l (le (seg l 0 8)) (le (seg l 8 4)).toNat 0 12 := by unfold goneL; rw [if_neg h12]
    obtain ⟨a, c, e, la, ka, hm⟩ := gos_at l (le (seg l 0 8)) hb (by omega) (le (seg l 8 4)).toNat 0 12 (by omega) (by omega)
    rw [← hG] at e ka hm
    have h4 := seg4_small l hb
    have h8 := seg8_small l hb
    have e4 : moraineref04_number.f k l 8 4 = some (le (seg l 8 4)) := refnumber_eq l 8 4 k hb (by omega) (by omega) (by omega) (by omega) (by omega)
    have ew : wrap64 (le (seg l 8 4)) = le (seg l 8 4) := by unfold wrap64; omega
    have hol := opsOf_len (goneL l)
    rw [lastEnd_eq, ka, encOps_len]
    have hgl := goneL_len l hb (by omega)
    rw [if_neg (by omega)]
    by_cases c1 : 12 + ((totN (opsOf04 (goneL l)) : Nat) : Int) = (l.length : Int)
    · rw [if_pos c1, e4, Option.bind_some, ew]
      by_cases c2 : le (seg l 8 4) = ((opsOf04 (goneL l)).length : Int)
      · rw [if_pos c2]
        by_cases c3 : ((opsOf04 (goneL l)).length : Int) > 4096
        · rw [if_pos c3, if_neg]
          intro q
          have := (chk_ok q.1).2.1
          omega
        · rw [if_neg c3, Fit_eq _ _ h8.1 (by omega), Option.bind_some]
          have hcn : (le (seg l 8 4)).toNat = (opsOf04 (goneL l)).length := by omega
          have hck := chk_of (l := opsOf04 (goneL l)) (by omega) hm (by omega)
          rw [hcn]
          by_cases c4 : fitB (le (seg l 0 8)) (opsOf04 (goneL l)).length = true
          · rw [if_pos c4, if_pos ⟨by rw [hck], by omega, c1, c4⟩]
          · rw [if_neg c4, if_neg (fun q => c4 q.2.2.2)]
      · rw [if_neg c2, if_neg]
        intro q
        exact c2 (by rw [hol]; exact q.2.1.symm)
    · rw [if_neg c1, if_neg (fun q => c1 q.2.2.1)]
/-- what Renumber answers, what Join answers -/
def renR (b : List Int) (seq : Int) : List Int × Int := if (decB b).2.2 = 0 then encR seq (decB b).2.1 else ([], 41)
def joinR (a b : List Int) : List Int × Int := if (decB a).2.2 = 0 then (if (decB b).2.2 = 0 then encR (decB a).1 ((decB a).2.1 ++ (decB b).2.1) else ([], 41)) else ([], 41)
theorem decB_err (b : List Int) (h : ¬ (decB b).2.2 = 0) : (decB b).2.2 = 41 := by rw [decB_bad b h]
theorem decB_len (b : List Int) (hb : Bytes b) (hl : b.length ≤ 1048576) : (decB b).2.1.length ≤ b.length ∧ ∀ x ∈ (decB b).2.1, x.f1.size ≤ 1048576 ∧ x.f2.size ≤ 1048576 := by
  have h := goneL_len b hb (by omega)
  have h2 := (sane_gone b hb hl).2
  unfold decB
  split
  · exact ⟨by simp, fun x hx => by cases hx⟩
  · split
    · exact ⟨by simp only []; rw [opsOf_len]; exact h, h2⟩
    · exact ⟨by simp, fun x hx => by cases hx⟩
theorem decB_seq' (b : List Int) (hb : Bytes b) : 0 ≤ (decB b).1 := by
  have h := (seg8_small b hb).1
  unfold decB
  split
  · exact Int.le_refl _
  · split
    · exact h
    · exact Int.le_refl _
theorem refrenumber_eq (b : List Int) (seq : Int) (k : Nat) (hb : Bytes b) (hl : b.length ≤ 1048576) (h0 : 0 ≤ seq) (hk : 13 + 2 * b.length ≤ k) : moraineref04_Renumber.f k b seq = some (renR b seq) := by
  have hs := decB_len b hb hl
  unfold moraineref04_Renumber.f renR
  rw [refdecode_eq b k hb hl (by omega), Option.bind_some]
  by_cases c : (decB b).2.2 = 0
  · rw [if_pos c, if_pos c, refencode_eq k seq _ h0 ⟨by omega, hs.2⟩ (by omega), Option.bind_some]
  · rw [if_neg c, if_neg c, decB_err b c]
theorem refjoin_eq (a b : List Int) (k : Nat) (ha : Bytes a) (hla : a.length ≤ 1048576) (hb : Bytes b) (hl : a.length + b.length ≤ 1048576) (hk : 13 + 2 * (a.length + b.length) ≤ k) : moraineref04_Join.f k a b = some (joinR a b) := by
  have hsa := decB_len a ha (by omega)
  have hsb := decB_len b hb (by omega)
  unfold moraineref04_Join.f joinR
  rw [refdecode_eq a k ha (by omega) (by omega), Option.bind_some, refdecode_eq b k hb (by omega) (by omega), Option.bind_some]
  by_cases c : (decB a).2.2 = 0
  · rw [if_pos c, if_pos c]
    by_cases d : (decB b).2.2 = 0
    · rw [if_pos d, if_pos d, Option.bind_some]
      rw [if_pos (by simp only [List.length_nil]; omega), Option.bind_some, List.nil_append, if_pos (by omega), refencode_eq k _ _ (decB_seq' a ha) ⟨by rw [List.length_append]; omega, fun x hx => (List.mem_append.1 hx).elim (hsa.2 x) (hsb.2 x)⟩ (by rw [List.length_append]; omega), Option.bind_some]
    · rw [if_neg d, if_neg d]
  · rw [if_neg c, if_neg c]
theorem refhead_eq (l : List Int) (k : Nat) (hb : Bytes l) (hl : l.length ≤ 1048576) (hk : 10 ≤ k) : moraineref04_Head.f k l = some (headR l) := by
  unfold moraineref04_Head.f headR
  by_cases h12 : l.length < 12
  · rw [if_pos (by omega), if_pos h12]
  · have h4 := seg4_small l hb
    have e8 : moraineref04_number.f k l 0 8 = some (le (seg l 0 8)) := refnumber_eq l 0 8 k hb (by omega) (by omega) (by omega) (by omega) (by omega)
    have e4 : moraineref04_number.f k l 8 4 = some (le (seg l 8 4)) := refnumber_eq l 8 4 k hb (by omega) (by omega) (by omega) (by omega) (by omega)
    have ew : wrap64 (le (seg l 8 4)) = le (seg l 8 4) := by unfold wrap64; omega
    rw [if_neg (by omega), if_neg h12, e8, Option.bind_some, e4, Option.bind_some, ew]

end Go.Proofs.Ythkooncibfkepaa.G

/- Printed by the session's program over the kit's print, out of the translation: functions as plain Lean functions, and the proofs that the calls come to them. -/
namespace Go.Proofs.Ythkooncibfkepaa.G
open Go.RowKit Go.Proofs.YthkooncibfkepaaW.PrintWords Go.Proofs.YthkooncibfkepaaW.PrintLast Go.Proofs.YthkooncibfkepaaW.PrintMore
attribute [local go_sem] max2_int min2_int max_two min_two max_three min_three max_four min_four   -- for this text's walks alone
set_option linter.unusedVariables false
set_option linter.unusedSimpArgs false

theorem eqA65 (d : Nat) (w : World) (x0 y0 : Int) (x1 y1 : ByteArray) (x2 y2 : ByteArray) :
    (Op.equalIn (d + 2) 65 (.agg #[.int .i64 x0, .string x1, .string x2]) (.agg #[.int .i64 y0, .string y1, .string y2])).run Try.prog w = .ok (x0 == y0 && (x1.toList == y1.toList && (x2.toList == y2.toList))) w := by
  refine eqA_of Try.underlying65 (by kernel_rfl) ?_
  refine eqf_cons (by rfl) (by go_simp; rfl) (by go_simp; rfl) (by go_simp) ?_
  refine eqf_cons (by rfl) (by go_simp; rfl) (by go_simp; rfl) (by go_simp) ?_
  exact eqf_last (by rfl) (by go_simp; rfl) (by go_simp; rfl) (by go_simp)
end Go.Proofs.Ythkooncibfkepaa.G

/- Printed by the session's program over the kit's print, out of the translation: functions as plain Lean functions, and the proofs that the calls come to them. -/
namespace Go.Proofs.Ythkooncibfkepaa.G
open Go.RowKit Go.Proofs.YthkooncibfkepaaW.PrintWords Go.Proofs.YthkooncibfkepaaW.PrintLast Go.Proofs.YthkooncibfkepaaW.PrintMore
attribute [local go_sem] max2_int min2_int max_two min_two max_three min_three max_four min_four   -- for this text's walks alone
set_option linter.unusedVariables false
set_option linter.unusedSimpArgs false

attribute [local go_sem high] eqA65
/-! ### morainelaw04_same: function 37 -/
def morainelaw04_same.l0 : Nat → List (S65) → List (S65) → Int → Option (Bool)
  | 0, _, _, _ => none
  | k + 1, x0, x1, x5 => if x5 < (x0.length : Int) then (if 0 ≤ x5 then (if x5 < (x1.length : Int) then (if (!(((rd_T65 x0 x5).f0) == ((rd_T65 x1 x5).f0)) || (!((((rd_T65 x0 x5).f1).toList) == (((rd_T65 x1 x5).f1).toList)) || (!((((rd_T65 x0 x5).f2).toList) == (((rd_T65 x1 x5).f2).toList))))) = true then (some false) else (morainelaw04_same.l0 k x0 x1 (wrap64 (x5 + 1)))) else (none)) else (none)) else (some true)
def morainelaw04_same.f (k : Nat) (l0 : List (S65)) (l1 : List (S65)) : Option (Bool) := if (l0.length : Int) = (l1.length : Int) then (morainelaw04_same.l0 k l0 l1 0) else (some false)
theorem morainelaw04_same.mono_l : ∀ k, (∀ y0 y1 y2, LeO (morainelaw04_same.l0 k y0 y1 y2) (morainelaw04_same.l0 (k + 1) y0 y1 y2))
  | 0 => fun _ _ _ r h => by simp [morainelaw04_same.l0] at h
  | k + 1 => by
    have ih0 := morainelaw04_same.mono_l k
    · intro y0 y1 y2
      unfold morainelaw04_same.l0
      repeat' first
      | (with_reducible exact ih0 _ _ _)
      | (with_reducible exact LeO.refl _)
      | (with_reducible exact LeO.none _)
      | (with_reducible refine LeO.ite ?_ ?_)
      | (with_reducible refine LeO.bind ?_ (fun _ => ?_))
      | exact ih0 _ _ _
      | exact LeO.none _
      | refine LeO.ite ?_ ?_
      | refine LeO.bind ?_ (fun _ => ?_)
theorem morainelaw04_same.mono : ∀ a0 a1 k, LeO (morainelaw04_same.f k a0 a1) (morainelaw04_same.f (k + 1) a0 a1) := by
  intro a0 a1 k
  have ih0 := morainelaw04_same.mono_l k
  unfold morainelaw04_same.f
  repeat' first
      | (with_reducible exact ih0 _ _ _)
      | (with_reducible exact LeO.refl _)
      | (with_reducible exact LeO.none _)
      | (with_reducible refine LeO.ite ?_ ?_)
      | (with_reducible refine LeO.bind ?_ (fun _ => ?_))
      | exact ih0 _ _ _
      | exact LeO.none _
      | refine LeO.ite ?_ ?_
      | refine LeO.bind ?_ (fun _ => ?_)
set_option maxHeartbeats 8000000 in
set_option maxRecDepth 100000 in
theorem morainelaw04_same.calls (k : Nat) (A0 : Option Addr) (c0 : Nat) (l0 : List (S65)) (A1 : Option Addr) (c1 : Nat) (l1 : List (S65)) (r : Bool) (w : World) (hr0 : Kd.C k65 w A0 l0.length l0) (hc0 : l0.length ≤ c0) (hr1 : Kd.C k65 w A1 l1.length l1) (hc1 : l1.length ≤ c1) (h : morainelaw04_same.f k l0 l1 = some r) :
    Calls Try.prog 37 #[.slice A0 l0.length c0, .slice A1 l1.length c1] w fun e w' => e = .returned (.bool r) ∧ Drawn0 w w' := by
  have hu65 := Try.underlying65
  have HR0 := Aside0.mk hr0
  have HC0 := Aside0.mk hc0
  clear hr0 hc0
  have HR1 := Aside0.mk hr1
  have HC1 := Aside0.mk hc1
  clear hr1 hc1
  have H : (if (l0.length : Int) = (l1.length : Int) then (morainelaw04_same.l0 k l0 l1 0) else (some false)) = some r := h
  clear h
  by_cases c3 : (l0.length : Int) = (l1.length : Int)
  · rw [if_pos c3] at H
    have c3b0 : ((l0.length : Int) == (l1.length : Int)) = true := beq_iff_eq.mpr c3
    have c3b1 : ((l0.length : Int) != (l1.length : Int)) = false := bne_eq_false_iff_eq.mpr c3
    have c3b2 : (l0.length == l1.length) = true := by first | simpa using c3 | (simp at c3 ⊢; omega)
    clear c3
    have H' := Aside0.mk H
    clear H
    go_enter Try.func37, Try.ntmps37
    go_wp2
    repeat (go_quiet (fail); try go_wp2)
    go_loopg [5] k (fun kq v5 w' => ∃ (x5_1 : Int), v5 = .int .i64 x5_1 ∧ Aside0 (morainelaw04_same.l0 kq l0 l1 x5_1 = some r) ∧ Aside0 (kq ≤ k) ∧ Drawn0 w w')
    case atStart => exact ⟨(0), (by first | rfl | (simp; done) | (simp [*]; done)), H', ⟨Nat.le_refl _⟩, by repeat (first | exact Drawn0.refl _ | apply Drawn0.step)⟩
    case round =>
      clear H'
      try clear c1
      try clear p2
      try clear c3
      try clear c3b0
      try clear c3b1
      try clear c3b2
      obtain ⟨x5_1, rfl, HA, HK1, ⟨m1, rfl⟩⟩ := hrel
      cases gk with
      | zero => exact absurd HA.out (by simp [morainelaw04_same.l0])
      | succ k1 =>
        have H := HA.out
        clear HA
        simp only [morainelaw04_same.l0] at H
        by_cases c4 : x5_1 < (l0.length : Int)
        · rw [if_pos c4] at H
          have c4b0 : decide (x5_1 < (l0.length : Int)) = true := decide_eq_true c4
          clear c4
          by_cases c5 : 0 ≤ x5_1
          · rw [if_pos c5] at H
            have c5b0 : decide (0 ≤ x5_1) = true := decide_eq_true c5
            clear c5
            by_cases c6 : x5_1 < (l1.length : Int)
            · rw [if_pos c6] at H
              have c6b0 : decide (x5_1 < (l1.length : Int)) = true := decide_eq_true c6
              clear c6
              by_cases c7 : (!(((rd_T65 l0 x5_1).f0) == ((rd_T65 l1 x5_1).f0)) || (!((((rd_T65 l0 x5_1).f1).toList) == (((rd_T65 l1 x5_1).f1).toList)) || (!((((rd_T65 l0 x5_1).f2).toList) == (((rd_T65 l1 x5_1).f2).toList))))) = true
              · rw [if_pos c7] at H
                have c7b0 : (!(((rd_T65 l0 x5_1).f0) == ((rd_T65 l1 x5_1).f0)) || (!((((rd_T65 l0 x5_1).f1).toList) == (((rd_T65 l1 x5_1).f1).toList)) || (!((((rd_T65 l0 x5_1).f2).toList) == (((rd_T65 l1 x5_1).f2).toList))))) = true := c7
                clear c7
                obtain rfl := Option.some.inj H
                have p123 : 0 ≤ (x5_1 : Int) := of_decide_eq_true (by first | (with_reducible assumption) | assumption)
                have q123 : x5_1 < (l0.length : Int) := of_decide_eq_true (by first | (with_reducible assumption) | assumption)
                obtain ⟨ad123, e123, hx123_0, hx123_1, hx123_2⟩ := at_T65 HR0.out x5_1 p123 q123
                cases e123
                replace p123 := eq_true p123
                replace q123 := eq_true q123
                have p124 : 0 ≤ (x5_1 : Int) := of_decide_eq_true (by first | (with_reducible assumption) | assumption)
                have q124 : x5_1 < (l1.length : Int) := of_decide_eq_true (by first | (with_reducible assumption) | assumption)
                obtain ⟨ad124, e124, hx124_0, hx124_1, hx124_2⟩ := at_T65 HR1.out x5_1 p124 q124
                cases e124
                replace p124 := eq_true p124
                replace q124 := eq_true q124
                go_wp2
                repeat (go_quiet (fail); try go_wp2)
                go_ret
                exact ⟨by first | rfl | (simp; done) | (simp [*]; done), by repeat (first | exact Drawn0.refl _ | apply Drawn0.step)⟩
              · rw [if_neg c7] at H
                have c7b0 : (!(((rd_T65 l0 x5_1).f0) == ((rd_T65 l1 x5_1).f0)) || (!((((rd_T65 l0 x5_1).f1).toList) == (((rd_T65 l1 x5_1).f1).toList)) || (!((((rd_T65 l0 x5_1).f2).toList) == (((rd_T65 l1 x5_1).f2).toList))))) = false := by simpa using c7
                clear c7
                have H' := Aside0.mk H
                clear H
                have p123 : 0 ≤ (x5_1 : Int) := of_decide_eq_true (by first | (with_reducible assumption) | assumption)
                have q123 : x5_1 < (l0.length : Int) := of_decide_eq_true (by first | (with_reducible assumption) | assumption)
                obtain ⟨ad123, e123, hx123_0, hx123_1, hx123_2⟩ := at_T65 HR0.out x5_1 p123 q123
                cases e123
                replace p123 := eq_true p123
                replace q123 := eq_true q123
                have p124 : 0 ≤ (x5_1 : Int) := of_decide_eq_true (by first | (with_reducible assumption) | assumption)
                have q124 : x5_1 < (l1.length : Int) := of_decide_eq_true (by first | (with_reducible assumption) | assumption)
                obtain ⟨ad124, e124, hx124_0, hx124_1, hx124_2⟩ := at_T65 HR1.out x5_1 p124 q124
                cases e124
                replace p124 := eq_true p124
                replace q124 := eq_true q124
                go_wp2
                repeat (go_quiet (fail); try go_wp2)
                go_roundg k1
                case measure => have := HK1.out; omega
                case rel => exact ⟨(wrap64 (x5_1 + 1)), (by first | rfl | (simp; done) | (simp [*]; done)), H', ⟨by have := HK1.out; omega⟩, by repeat (first | exact Drawn0.refl _ | apply Drawn0.step)⟩
            · rw [if_neg c6] at H
              exact absurd H (by simp)
          · rw [if_neg c5] at H
            exact absurd H (by simp)
        · rw [if_neg c4] at H
          have c4b0 : decide (x5_1 < (l0.length : Int)) = false := decide_eq_false c4
          clear c4
          obtain rfl := Option.some.inj H
          go_wp2
          repeat (go_quiet (fail); try go_wp2)
          go_ret
          exact ⟨by first | rfl | (simp; done) | (simp [*]; done), by repeat (first | exact Drawn0.refl _ | apply Drawn0.step)⟩
  · rw [if_neg c3] at H
    have c3b0 : ((l0.length : Int) == (l1.length : Int)) = false := beq_eq_false_iff_ne.mpr c3
    have c3b1 : ((l0.length : Int) != (l1.length : Int)) = true := bne_iff_ne.mpr c3
    have c3b2 : (l0.length == l1.length) = false := by first | simpa using c3 | (simp at c3 ⊢; omega)
    obtain rfl := Option.some.inj H
    go_enter Try.func37, Try.ntmps37
    go_wp2
    repeat (go_quiet (fail); try go_wp2)
    go_ret
    exact ⟨by first | rfl | (simp; done) | (simp [*]; done), by repeat (first | exact Drawn0.refl _ | apply Drawn0.step)⟩

end Go.Proofs.Ythkooncibfkepaa.G

/- Contracts typed by hand: morainelaw04.copied: operations in memory of their own, one behind their end -/
namespace Go.Proofs.Ythkooncibfkepaa.G
open Go.RowKit Go.Proofs.YthkooncibfkepaaW.PrintWords Go.Proofs.YthkooncibfkepaaW.PrintLast Go.Proofs.YthkooncibfkepaaW.PrintMore
attribute [local go_sem] max2_int min2_int max_two min_two max_three min_three max_four min_four
set_option linter.unusedVariables false
set_option linter.unusedSimpArgs false

/-! morainelaw04.copied: operations in memory of their own, one behind their end -/
def mark04 : S65 := ⟨77, ⟨#[]⟩, ⟨#[]⟩⟩
theorem mark04_len (l : List S65) : (l ++ [mark04]).length = l.length + 1 := by simp
set_option maxHeartbeats 4000000 in
theorem morainelaw04_copied.calls (A0 : Option Addr) (c0 : Nat) (l0 : List S65) (w : World) (hr0 : Kd.C k65 w A0 l0.length l0) (hl : l0.length ≤ 2097152) :
    Calls Try.prog 15 #[.slice A0 l0.length c0] w fun e w' => ∃ (A : Option Addr) (c : Nat), e = .returned (.slice A l0.length c) ∧ Kd.R k65 65 w' w.heap.size (fun _ => True) (.slice A (l0.length + 1) c) (l0 ++ [mark04]) ∧ Below w.heap.size w w' := by
  have hu := Try.underlying65
  have HR := Aside0.mk hr0
  clear hr0
  have HL := Aside0.mk hl
  have HB := Aside0.mk (Below.refl w.heap.size w)
  go_enter Try.func15, Try.ntmps15
  go_wp2_with (first | ((with_reducible refine gate_dst (N := 3) rfl ?_); refine Kd.R_lit k65 _ 65 ?hg (N := 3) ?hd (xs := ([] : List S65)) (inner := []) (ok := fun _ => True) (okp := fun _ => True) ?hr ?hp (fun _ hk => hk) trivial (Below.refl _ _) (Nat.le_refl _) (by simp) ?_; (case hd => rfl); (case hg => rfl); (case hr => first | (go_simp; done) | (go_simp; rfl)); (case hp => exact (Reps.none _ _)); intro v102 w6 ho7 hb hg_ hnew_; clear hg_ hnew_; have HO1 := Aside0.mk ho7; have HB1 := Aside0.mk hb; clear hb ho7) | ((with_reducible refine gate_builtin (b := .append) (xs := #[.tmp 3, .tmp 4]) rfl ?_); at_builtin; refine Kd.R_append_rows k65 (w0 := w) w.heap.size rfl (.tmp 3) (.tmp 4) 22 65 (.agg #[(.int .i64 0), (.string ⟨#[]⟩), (.string ⟨#[]⟩)]) 40 rfl Try.underlying22 info65 rfl (by decide) (by omega) v102 [] l0 _ _ _ (fun _ => True) (fun _ => False) rfl rfl ?aO ?aR (fun _ _ h => h) (fun _ h => h.elim) (fun _ _ => trivial) ?aB ?aS ?aL ?_; (case aR => exact (Kd.C_below HR.out HB1.out)); (case aB => exact HB1.out); (case aO => exact HO1.out); (case aS => exact HB1.out.size); (case aL => have := HL.out; simp; omega); intro v105 w8 ho hb hg hat; have HO2 := Aside0.mk ho; have HB2 := Aside0.mk hb; clear ho hb hg hat) | ((with_reducible refine gate_builtin (b := .append) (xs := #[.tmp 5, .tmp 7]) rfl ?_); at_builtin; refine Kd.R_append k65 (w0 := w) w.heap.size rfl (.tmp 5) (.tmp 7) 22 65 (.agg #[(.int .i64 0), (.string ⟨#[]⟩), (.string ⟨#[]⟩)]) 40 rfl Try.underlying22 info65 rfl (by decide) (by omega) v105 ([] ++ l0) mark04 [.int .i64 77, .string (⟨#[]⟩ : ByteArray), .string (⟨#[]⟩ : ByteArray)] (fun _ => True) (fun _ => False) rfl rfl ?aP (fun _ hk => hk.elim) (fun _ _ => trivial) ?aO ?aB ?aS ?aL ?_; (case aP => exact k65_mkM _ _ _ mark04); (case aB => exact HB2.out); (case aO => exact HO2.out); (case aS => exact HB2.out.size); (case aL => have := HL.out; simp; omega); intro v108 w9 ho hb hg hat; have ho2 : Kd.R k65 65 w9 w.heap.size (fun _ => True) v108 (l0 ++ [mark04]) := ho; have HB3 := Aside0.mk hb; clear ho hb hg hat; obtain ⟨Ao10, co10, eo10⟩ := Kd.R_slice ho2; subst eo10; rw [mark04_len] at ho2; have HO3 := Aside0.mk ho2; have hcc : l0.length + 1 ≤ co10 := (Kd.R_reads' ho2).2.1; clear ho2; obtain ⟨i011, hi011, _, hsz11, _⟩ := info_parts info65; rw [mark04_len]; have hcut11 := cut_to (P := Try.prog) 22 65 .i64 Try.underlying22 hi011 Ao10 (l0.length + 1) co10 (l0.length : Int) (by omega) (by omega) hcc; rw [Int.toNat_natCast] at hcut11; clear hi011 hsz11))
  go_ret
  exact ⟨_, _, rfl, HO3.out, HB3.out⟩

end Go.Proofs.Ythkooncibfkepaa.G

/- Contracts typed by hand: morainelaw04.stay: such a copy stands as it was -/
namespace Go.Proofs.Ythkooncibfkepaa.G
open Go.RowKit Go.Proofs.YthkooncibfkepaaW.PrintWords Go.Proofs.YthkooncibfkepaaW.PrintLast Go.Proofs.YthkooncibfkepaaW.PrintMore
attribute [local go_sem] max2_int min2_int max_two min_two max_three min_three max_four min_four
set_option linter.unusedVariables false
set_option linter.unusedSimpArgs false

/-! morainelaw04.stay: such a copy stands as it was -/
theorem same_loop (l : List S65) (hl : l.length ≤ 1099511627776) : ∀ (d i k : Nat), i + d = l.length → morainelaw04_same.l0 (k + d + 1) l l (i : Int) = some true
  | 0, i, k, hi => by rw [morainelaw04_same.l0, if_neg (by omega)]
  | d + 1, i, k, hi => by
    have c0 : (i : Int) < (l.length : Int) := by omega
    have c1 : 0 ≤ (i : Int) := Int.natCast_nonneg _
    have e5 : wrap64 ((i : Int) + 1) = ((i + 1 : Nat) : Int) := by unfold wrap64; omega
    rw [show k + (d + 1) + 1 = (k + d + 1) + 1 by omega, morainelaw04_same.l0, if_pos c0, if_pos c1, if_pos c0, if_neg (by simp), e5]
    exact same_loop l hl d (i + 1) k (by omega)
theorem same_self (l : List S65) (hl : l.length ≤ 1099511627776) : morainelaw04_same.f (l.length + 1) l l = some true := by
  unfold morainelaw04_same.f
  rw [if_pos rfl]
  have := same_loop l hl l.length 0 0 (by omega)
  rw [Nat.zero_add] at this
  exact this
theorem C_prefix65 {w : World} {A : Option Addr} {xs ys : List S65} (h : Kd.C k65 w A (xs.length + ys.length) (xs ++ ys)) : Kd.C k65 w A xs.length xs := by
  rw [← List.length_append] at h
  have h1 := Kd.C_take (m := xs.length) h (by simp)
  rwa [List.take_left] at h1
theorem mark_rd (l : List S65) : rd_T65 (l ++ [mark04]) (l.length : Int) = mark04 := by simp [rd_T65, List.getD_eq_getElem?_getD]
set_option maxHeartbeats 4000000 in
set_option maxRecDepth 100000 in
theorem morainelaw04_stay.calls (A0 : Option Addr) (c0 : Nat) (l0 : List S65) (A1 : Option Addr) (c1 : Nat) (w : World) (hr0 : Kd.C k65 w A0 (l0.length + 1) (l0 ++ [mark04])) (hc0 : l0.length + 1 ≤ c0) (hr1 : Kd.C k65 w A1 l0.length l0) (hc1 : l0.length ≤ c1) (hl : l0.length ≤ 2097152) :
    Calls Try.prog 20 #[.slice A0 l0.length c0, .slice A1 l0.length c1] w fun e w' => e = .returned (.bool true) ∧ Drawn0 w w' := by
  have hu := Try.underlying65
  have HR0 := Aside0.mk (C_prefix65 (ys := [mark04]) hr0)
  have HR1 := Aside0.mk hr1
  have HC1 := Aside0.mk hc1
  have HS := Aside0.mk (same_self l0 (by omega))
  obtain ⟨ad, e1, h0, h1, h2⟩ := at_T65 hr0 (l0.length : Int) (by omega) (by omega)
  rw [mark_rd, Int.toNat_natCast] at h0 h1 h2
  cases e1
  have g0 : w.cell? (ad.add (l0.length * 3)) = some (.int .i64 77) := h0
  have g1 : w.cell? ⟨(ad.add (l0.length * 3)).block, (ad.add (l0.length * 3)).off + 1, none⟩ = some (.string (⟨#[]⟩ : ByteArray)) := h1
  have g2 : w.cell? ⟨(ad.add (l0.length * 3)).block, (ad.add (l0.length * 3)).off + 2, none⟩ = some (.string (⟨#[]⟩ : ByteArray)) := h2
  clear h0 h1 h2 hr0 hr1 hc1
  have HC0 := Aside0.mk (show l0.length ≤ c0 by omega)
  go_enter Try.func20, Try.ntmps20
  go_wp2_with (first | (go_at_call 37; (with_reducible refine (morainelaw04_same.calls _ _ _ l0 _ _ l0 true _ HR0.out HC0.out HR1.out HC1.out HS.out).mono ?_); rintro e w1 ⟨rfl, ⟨n, rfl⟩⟩))
  go_ret
  exact ⟨by simp, ⟨⟨n, rfl⟩⟩⟩

end Go.Proofs.Ythkooncibfkepaa.G

/- Contracts typed by hand: an argument that can be read is of its kind: from the form's reading to the words of the walks -/
namespace Go.Proofs.Ythkooncibfkepaa.G
open Go.RowKit Go.Proofs.YthkooncibfkepaaW.PrintWords Go.Proofs.YthkooncibfkepaaW.PrintLast Go.Proofs.YthkooncibfkepaaW.PrintMore
attribute [local go_sem] max2_int min2_int max_two min_two max_three min_three max_four min_four
set_option linter.unusedVariables false
set_option linter.unusedSimpArgs false

/-! an argument that can be read is of its kind: from the form's reading to the words of the walks -/
open Go.ChangeShapes Go.WideShapes Go.Deep
structure Opens (P : Program) (t : TypeId) {α : Type} (d : Kd α) (good : α → Prop) (bulk : α → Nat) : Prop where
  sz : P.cellsOf t = d.sz
  one : ∀ x, 1 ≤ bulk x
  go : ∀ {H : Type} {enc : TypeId × Value → H} {w : World} {base : Nat} {spare : Nat → Bool} {held : Bool} {fuel : Nat} {cs : List Value} {x : DataW H × List MemPlace}, DataW.trod enc P w base spare held fuel t cs = some x → ∃ a : α, d.K w a cs ∧ good a ∧ bulk a ≤ Rows.uptoBulk x.1
theorem opens_int {P : Program} {t : TypeId} {k : IntKind} (h : P.underlying t = some (.int k)) (hc : P.cellsOf t = 1) : Opens P t (Kd.int k) (fun n => (Lit.int k n).wf = true) (fun _ => 1) where
  sz := hc
  one := fun _ => Nat.le_refl 1
  go := by
    intro H enc w base spare held fuel cs x hx
    obtain ⟨n, rfl, rfl, hw⟩ := DataW.trod_int h hx
    exact ⟨n, rfl, hw, by simp [Rows.uptoBulk]⟩
theorem opens_bool {P : Program} {t : TypeId} (h : P.underlying t = some .bool) (hc : P.cellsOf t = 1) : Opens P t Kd.bool (fun _ => True) (fun _ => 1) where
  sz := hc
  one := fun _ => Nat.le_refl 1
  go := by
    intro H enc w base spare held fuel cs x hx
    obtain ⟨n, rfl, rfl⟩ := DataW.trod_bool h hx
    exact ⟨n, rfl, trivial, by simp [Rows.uptoBulk]⟩
theorem opens_string {P : Program} {t : TypeId} (h : P.underlying t = some .string) (hc : P.cellsOf t = 1) : Opens P t Kd.string (fun s => s.size ≤ maxLen) (fun s => s.size + 1) where
  sz := hc
  one := fun s => Nat.le_add_left 1 s.size
  go := by
    intro H enc w base spare held fuel cs x hx
    obtain ⟨s, rfl, rfl, hw⟩ := DataW.trod_string h hx
    exact ⟨s, rfl, hw, by simp [Rows.uptoBulk]⟩
def sumBulk {α : Type} (bulk : α → Nat) (l : List α) : Nat := (l.map bulk).sum
theorem sumBulk_nil {α : Type} (bulk : α → Nat) : sumBulk bulk [] = 0 := rfl
theorem sumBulk_cons {α : Type} (bulk : α → Nat) (x : α) (l : List α) : sumBulk bulk (x :: l) = bulk x + sumBulk bulk l := by simp [sumBulk]
theorem sumBulk_append {α : Type} (bulk : α → Nat) (l r : List α) : sumBulk bulk (l ++ r) = sumBulk bulk l + sumBulk bulk r := by simp [sumBulk, List.sum_append]
theorem sumBulk_mem {α : Type} (bulk : α → Nat) {x : α} {l : List α} (h : x ∈ l) : bulk x ≤ sumBulk bulk l := by
  induction l with
  | nil => cases h
  | cons y r ih =>
    rw [sumBulk_cons]
    rcases List.mem_cons.1 h with rfl | h
    · omega
    · have := ih h; omega
theorem sumBulk_len {α : Type} (bulk : α → Nat) (h1 : ∀ x, 1 ≤ bulk x) (l : List α) : l.length ≤ sumBulk bulk l := by
  induction l with
  | nil => exact Nat.zero_le _
  | cons y r ih => rw [sumBulk_cons, List.length_cons]; have := h1 y; omega
theorem list_of {α : Type} {Q : Nat → α → Prop} : ∀ (n : Nat), (∀ i, i < n → ∃ y, Q i y) → ∃ l : List α, l.length = n ∧ ∀ i y, l[i]? = some y → Q i y
  | 0, _ => ⟨[], rfl, fun i y h => by simp at h⟩
  | n + 1, h => by
    obtain ⟨l, hl, hq⟩ := list_of n (fun i hi => h i (by omega))
    obtain ⟨y, hy⟩ := h n (by omega)
    refine ⟨l ++ [y], by simp [hl], fun i z hz => ?_⟩
    rcases Nat.lt_trichotomy i n with hi | hi | hi
    · rw [List.getElem?_append_left (by omega)] at hz
      exact hq i z hz
    · subst hi
      rw [List.getElem?_append_right (by omega), hl] at hz
      simp at hz
      subst hz
      exact hy
    · rw [List.getElem?_eq_none (by simp [hl]; omega)] at hz
      cases hz
theorem bulkAll_append {H : Type} (l r : List (DataW H)) : Rows.uptoBulkAll (l ++ r) = Rows.uptoBulkAll l + Rows.uptoBulkAll r := by
  induction l with
  | nil => simp [Rows.uptoBulkAll]
  | cons x l ih => simp only [List.cons_append, Rows.uptoBulkAll, ih]; omega
theorem bulkAll_map {H : Type} {α : Type} (bulk : α → Nat) (D : Nat → DataW H) : ∀ (n : Nat) (l : List α), l.length = n → (∀ i y, l[i]? = some y → bulk y ≤ Rows.uptoBulk (D i)) → sumBulk bulk l ≤ Rows.uptoBulkAll ((List.range n).map D)
  | 0, l, hl, _ => by
    have : l = [] := List.length_eq_zero_iff.1 hl
    subst this
    simp [sumBulk]
  | n + 1, l, hl, h => by
    have hne : l ≠ [] := by
      intro e
      rw [e] at hl
      simp at hl
    obtain ⟨l0, y0, rfl⟩ : ∃ l0 y0, l = l0 ++ [y0] := ⟨l.dropLast, l.getLast hne, (List.dropLast_concat_getLast hne).symm⟩
    have hd : l0.length = n := by simpa using hl
    have ih := bulkAll_map bulk D n l0 hd (fun i y hy => h i y (by
      have hi : i < l0.length := (List.getElem?_eq_some_iff.1 hy).1
      rw [List.getElem?_append_left hi]
      exact hy))
    have hn := h n y0 (by
      rw [List.getElem?_append_right (by omega), hd]
      simp)
    rw [List.range_succ, List.map_append, bulkAll_append, sumBulk_append]
    simp only [List.map_cons, List.map_nil, sumBulk_cons, sumBulk_nil, Rows.uptoBulkAll]
    omega
theorem opens_slice {P : Program} {t e : TypeId} {α : Type} {d : Kd α} {good : α → Prop} {bulk : α → Nat} (h : P.underlying t = some (.slice e)) (hc : P.cellsOf t = 1) (he : Opens P e d good bulk) : Opens P t (Kd.slice e d) (fun l => ∀ x ∈ l, good x) (fun l => sumBulk bulk l + 1) where
  sz := hc
  one := fun l => Nat.le_add_left 1 _
  go := by
    intro H enc w base spare held fuel cs x hx
    rcases open_slice h hx with ⟨rfl, rfl⟩ | ⟨a, len, cap, m, n, D, Pl, rfl, hb, hl, hm, hmm, rfl, hi⟩
    · exact ⟨[], ⟨none, 0, rfl, Nat.le_refl _, Kd.C_nil _ _⟩, by simp, by simp [sumBulk, Rows.uptoBulk]⟩
    · have hlm : len ≤ m := by
        rw [hmm]
        split
        · exact hl
        · exact Nat.le_refl _
      obtain ⟨l, hll, hq⟩ := list_of (Q := fun i y => ∃ cs', w.cells? base (a.add (i * P.cellsOf e)) (P.cellsOf e) = some cs' ∧ d.K w y cs' ∧ good y ∧ bulk y ≤ Rows.uptoBulk (D i)) len (fun i hlt => by
        obtain ⟨cs', hcs, ht⟩ := hi i (by omega)
        obtain ⟨y, h1, h2, h3⟩ := he.go ht
        exact ⟨y, cs', hcs, h1, h2, h3⟩)
      subst hll
      refine ⟨l, ⟨some a, cap, rfl, hl, rfl, by unfold maxLen at hm; omega, fun _ => ⟨a, rfl, fun j p hj => ?_⟩⟩, fun x hx => ?_, ?_⟩
      · obtain ⟨cs', hcs, hk, _, _⟩ := hq j p hj
        obtain ⟨_, hlen, hat⟩ := World.cells?_some hcs
        rw [he.sz] at hlen hat
        refine ⟨cs', hlen, hk, fun i u hu => ?_⟩
        have hil : i < cs'.length := (List.getElem?_eq_some_iff.1 hu).1
        have := hat i (by omega)
        rw [Go.Deep.add_add] at this
        rw [this, hu]
      · obtain ⟨i, hi2⟩ := List.getElem?_of_mem hx
        obtain ⟨_, _, _, hg, _⟩ := hq i x hi2
        exact hg
      · have hbk := bulkAll_map bulk D l.length l rfl (fun i y hy => by
          obtain ⟨_, _, _, _, h5⟩ := hq i y hy
          exact h5)
        simp only [Rows.uptoBulk]
        omega
theorem opens_struct2 {P : Program} {t : TypeId} {f0 f1 : Field} {α β : Type} {d0 : Kd α} {d1 : Kd β} {g0 : α → Prop} {g1 : β → Prop} {b0 : α → Nat} {b1 : β → Nat} (ht : P.underlying t = some (.struct #[f0, f1])) (hc : P.cellsOf t = d0.sz + d1.sz)
    (ho0 : f0.offset = 0) (ho1 : f1.offset = d0.sz) (h0 : Opens P f0.type d0 g0 b0) (h1 : Opens P f1.type d1 g1 b1) : Opens P t (Kd.pair d0 d1) (fun x => g0 x.1 ∧ g1 x.2) (fun x => b0 x.1 + b1 x.2 + 1) where
  sz := hc
  one := fun l => Nat.le_add_left 1 _
  go := by
    intro H enc w base spare held fuel cs x hx
    obtain ⟨y0, y1, n, rfl, hl, e0, e1⟩ := trod_struct2 ht hx
    obtain ⟨a, k0, q0, p0⟩ := h0.go e0
    obtain ⟨b, k1, q1, p1⟩ := h1.go e1
    rw [ho0, h0.sz] at k0
    rw [ho1, h1.sz] at k1
    refine ⟨(a, b), ⟨_, _, ?_, k0, k1⟩, ⟨q0, q1⟩, ?_⟩
    · rw [List.drop_zero]
      have hd : (cs.drop d0.sz).take d1.sz = cs.drop d0.sz := List.take_of_length_le (by rw [List.length_drop]; omega)
      rw [hd, List.take_append_drop]
    · simp only [Rows.uptoBulk, Rows.uptoBulkAll]
      omega
theorem opens_struct3 {P : Program} {t : TypeId} {f0 f1 f2 : Field} {α β γ : Type} {d0 : Kd α} {d1 : Kd β} {d2 : Kd γ} {g0 : α → Prop} {g1 : β → Prop} {g2 : γ → Prop} {b0 : α → Nat} {b1 : β → Nat} {b2 : γ → Nat} (ht : P.underlying t = some (.struct #[f0, f1, f2])) (hc : P.cellsOf t = d0.sz + (d1.sz + d2.sz))
    (ho0 : f0.offset = 0) (ho1 : f1.offset = d0.sz) (ho2 : f2.offset = d0.sz + d1.sz) (h0 : Opens P f0.type d0 g0 b0) (h1 : Opens P f1.type d1 g1 b1) (h2 : Opens P f2.type d2 g2 b2) : Opens P t (Kd.pair d0 (Kd.pair d1 d2)) (fun x => g0 x.1 ∧ g1 x.2.1 ∧ g2 x.2.2) (fun x => b0 x.1 + b1 x.2.1 + b2 x.2.2 + 1) where
  sz := hc
  one := fun l => Nat.le_add_left 1 _
  go := by
    intro H enc w base spare held fuel cs x hx
    obtain ⟨y0, y1, y2, n, rfl, hl, e0, e1, e2⟩ := trod_struct3 ht hx
    obtain ⟨a, k0, q0, p0⟩ := h0.go e0
    obtain ⟨b, k1, q1, p1⟩ := h1.go e1
    obtain ⟨c, k2, q2, p2⟩ := h2.go e2
    rw [ho0, h0.sz] at k0
    rw [ho1, h1.sz] at k1
    rw [ho2, h2.sz] at k2
    refine ⟨(a, b, c), ⟨_, _, ?_, k0, _, _, rfl, k1, k2⟩, ⟨q0, q1, q2⟩, ?_⟩
    · rw [List.drop_zero]
      have hd : (cs.drop (d0.sz + d1.sz)).take d2.sz = cs.drop (d0.sz + d1.sz) := List.take_of_length_le (by rw [List.length_drop]; omega)
      rw [hd, ← List.drop_drop, List.take_append_drop, List.take_append_drop]
    · simp only [Rows.uptoBulk, Rows.uptoBulkAll]
      omega
theorem seg_join {α : Type} (cs : List α) (o n : Nat) : (cs.drop o).take n ++ cs.drop (o + n) = cs.drop o := by
  rw [← List.drop_drop, List.take_append_drop]
theorem opens_struct4 {P : Program} {t : TypeId} {f0 f1 f2 f3 : Field} {α0 α1 α2 α3 : Type} {d0 : Kd α0} {d1 : Kd α1} {d2 : Kd α2} {d3 : Kd α3} {g0 : α0 → Prop} {g1 : α1 → Prop} {g2 : α2 → Prop} {g3 : α3 → Prop} {b0 : α0 → Nat} {b1 : α1 → Nat} {b2 : α2 → Nat} {b3 : α3 → Nat} (ht : P.underlying t = some (.struct #[f0, f1, f2, f3])) (hc : P.cellsOf t = (d0.sz + (d1.sz + (d2.sz + d3.sz))))
    (ho0 : f0.offset = 0) (ho1 : f1.offset = d0.sz) (ho2 : f2.offset = d0.sz + d1.sz) (ho3 : f3.offset = d0.sz + d1.sz + d2.sz) (h0 : Opens P f0.type d0 g0 b0) (h1 : Opens P f1.type d1 g1 b1) (h2 : Opens P f2.type d2 g2 b2) (h3 : Opens P f3.type d3 g3 b3) : Opens P t (Kd.pair d0 (Kd.pair d1 (Kd.pair d2 d3))) (fun x => g0 x.1 ∧ g1 x.2.1 ∧ g2 x.2.2.1 ∧ g3 x.2.2.2) (fun x => b0 x.1 + b1 x.2.1 + b2 x.2.2.1 + b3 x.2.2.2 + 1) where
  sz := hc
  one := fun l => Nat.le_add_left 1 _
  go := by
    intro H enc w base spare held fuel cs x hx
    obtain ⟨xs, n, _, rfl, hl, hlen, hf⟩ := DataW.trod_struct ht hx
    match xs, hlen with
    | [y0, y1, y2, y3], _ =>
      obtain ⟨a0, k0, q0, p0⟩ := h0.go (show DataW.trod enc P w base spare held n f0.type ((cs.drop f0.offset).take (P.cellsOf f0.type)) = some y0 from by simpa using hf 0 f0 rfl)
      rw [ho0, h0.sz] at k0
      obtain ⟨a1, k1, q1, p1⟩ := h1.go (show DataW.trod enc P w base spare held n f1.type ((cs.drop f1.offset).take (P.cellsOf f1.type)) = some y1 from by simpa using hf 1 f1 rfl)
      rw [ho1, h1.sz] at k1
      obtain ⟨a2, k2, q2, p2⟩ := h2.go (show DataW.trod enc P w base spare held n f2.type ((cs.drop f2.offset).take (P.cellsOf f2.type)) = some y2 from by simpa using hf 2 f2 rfl)
      rw [ho2, h2.sz] at k2
      obtain ⟨a3, k3, q3, p3⟩ := h3.go (show DataW.trod enc P w base spare held n f3.type ((cs.drop f3.offset).take (P.cellsOf f3.type)) = some y3 from by simpa using hf 3 f3 rfl)
      rw [ho3, h3.sz] at k3
      refine ⟨(a0, a1, a2, a3), ⟨_, _, ?_, k0, _, _, rfl, k1, _, _, rfl, k2, k3⟩, ⟨q0, q1, q2, q3⟩, ?_⟩
      · rw [List.drop_zero]
        have hd : (cs.drop (d0.sz + d1.sz + d2.sz)).take d3.sz = cs.drop (d0.sz + d1.sz + d2.sz) := List.take_of_length_le (by rw [List.length_drop]; omega)
        rw [hd, seg_join, seg_join, List.take_append_drop]
      · simp only [List.map_cons, List.map_nil, Rows.uptoBulk, Rows.uptoBulkAll]
        omega
theorem opens_struct5 {P : Program} {t : TypeId} {f0 f1 f2 f3 f4 : Field} {α0 α1 α2 α3 α4 : Type} {d0 : Kd α0} {d1 : Kd α1} {d2 : Kd α2} {d3 : Kd α3} {d4 : Kd α4} {g0 : α0 → Prop} {g1 : α1 → Prop} {g2 : α2 → Prop} {g3 : α3 → Prop} {g4 : α4 → Prop} {b0 : α0 → Nat} {b1 : α1 → Nat} {b2 : α2 → Nat} {b3 : α3 → Nat} {b4 : α4 → Nat} (ht : P.underlying t = some (.struct #[f0, f1, f2, f3, f4])) (hc : P.cellsOf t = (d0.sz + (d1.sz + (d2.sz + (d3.sz + d4.sz)))))
    (ho0 : f0.offset = 0) (ho1 : f1.offset = d0.sz) (ho2 : f2.offset = d0.sz + d1.sz) (ho3 : f3.offset = d0.sz + d1.sz + d2.sz) (ho4 : f4.offset = d0.sz + d1.sz + d2.sz + d3.sz) (h0 : Opens P f0.type d0 g0 b0) (h1 : Opens P f1.type d1 g1 b1) (h2 : Opens P f2.type d2 g2 b2) (h3 : Opens P f3.type d3 g3 b3) (h4 : Opens P f4.type d4 g4 b4) : Opens P t (Kd.pair d0 (Kd.pair d1 (Kd.pair d2 (Kd.pair d3 d4)))) (fun x => g0 x.1 ∧ g1 x.2.1 ∧ g2 x.2.2.1 ∧ g3 x.2.2.2.1 ∧ g4 x.2.2.2.2) (fun x => b0 x.1 + b1 x.2.1 + b2 x.2.2.1 + b3 x.2.2.2.1 + b4 x.2.2.2.2 + 1) where
  sz := hc
  one := fun l => Nat.le_add_left 1 _
  go := by
    intro H enc w base spare held fuel cs x hx
    obtain ⟨xs, n, _, rfl, hl, hlen, hf⟩ := DataW.trod_struct ht hx
    match xs, hlen with
    | [y0, y1, y2, y3, y4], _ =>
      obtain ⟨a0, k0, q0, p0⟩ := h0.go (show DataW.trod enc P w base spare held n f0.type ((cs.drop f0.offset).take (P.cellsOf f0.type)) = some y0 from by simpa using hf 0 f0 rfl)
      rw [ho0, h0.sz] at k0
      obtain ⟨a1, k1, q1, p1⟩ := h1.go (show DataW.trod enc P w base spare held n f1.type ((cs.drop f1.offset).take (P.cellsOf f1.type)) = some y1 from by simpa using hf 1 f1 rfl)
      rw [ho1, h1.sz] at k1
      obtain ⟨a2, k2, q2, p2⟩ := h2.go (show DataW.trod enc P w base spare held n f2.type ((cs.drop f2.offset).take (P.cellsOf f2.type)) = some y2 from by simpa using hf 2 f2 rfl)
      rw [ho2, h2.sz] at k2
      obtain ⟨a3, k3, q3, p3⟩ := h3.go (show DataW.trod enc P w base spare held n f3.type ((cs.drop f3.offset).take (P.cellsOf f3.type)) = some y3 from by simpa using hf 3 f3 rfl)
      rw [ho3, h3.sz] at k3
      obtain ⟨a4, k4, q4, p4⟩ := h4.go (show DataW.trod enc P w base spare held n f4.type ((cs.drop f4.offset).take (P.cellsOf f4.type)) = some y4 from by simpa using hf 4 f4 rfl)
      rw [ho4, h4.sz] at k4
      refine ⟨(a0, a1, a2, a3, a4), ⟨_, _, ?_, k0, _, _, rfl, k1, _, _, rfl, k2, _, _, rfl, k3, k4⟩, ⟨q0, q1, q2, q3, q4⟩, ?_⟩
      · rw [List.drop_zero]
        have hd : (cs.drop (d0.sz + d1.sz + d2.sz + d3.sz)).take d4.sz = cs.drop (d0.sz + d1.sz + d2.sz + d3.sz) := List.take_of_length_le (by rw [List.length_drop]; omega)
        rw [hd, seg_join, seg_join, seg_join, List.take_append_drop]
      · simp only [List.map_cons, List.map_nil, Rows.uptoBulk, Rows.uptoBulkAll]
        omega
theorem opens_struct6 {P : Program} {t : TypeId} {f0 f1 f2 f3 f4 f5 : Field} {α0 α1 α2 α3 α4 α5 : Type} {d0 : Kd α0} {d1 : Kd α1} {d2 : Kd α2} {d3 : Kd α3} {d4 : Kd α4} {d5 : Kd α5} {g0 : α0 → Prop} {g1 : α1 → Prop} {g2 : α2 → Prop} {g3 : α3 → Prop} {g4 : α4 → Prop} {g5 : α5 → Prop} {b0 : α0 → Nat} {b1 : α1 → Nat} {b2 : α2 → Nat} {b3 : α3 → Nat} {b4 : α4 → Nat} {b5 : α5 → Nat} (ht : P.underlying t = some (.struct #[f0, f1, f2, f3, f4, f5])) (hc : P.cellsOf t = (d0.sz + (d1.sz + (d2.sz + (d3.sz + (d4.sz + d5.sz))))))
    (ho0 : f0.offset = 0) (ho1 : f1.offset = d0.sz) (ho2 : f2.offset = d0.sz + d1.sz) (ho3 : f3.offset = d0.sz + d1.sz + d2.sz) (ho4 : f4.offset = d0.sz + d1.sz + d2.sz + d3.sz) (ho5 : f5.offset = d0.sz + d1.sz + d2.sz + d3.sz + d4.sz) (h0 : Opens P f0.type d0 g0 b0) (h1 : Opens P f1.type d1 g1 b1) (h2 : Opens P f2.type d2 g2 b2) (h3 : Opens P f3.type d3 g3 b3) (h4 : Opens P f4.type d4 g4 b4) (h5 : Opens P f5.type d5 g5 b5) : Opens P t (Kd.pair d0 (Kd.pair d1 (Kd.pair d2 (Kd.pair d3 (Kd.pair d4 d5))))) (fun x => g0 x.1 ∧ g1 x.2.1 ∧ g2 x.2.2.1 ∧ g3 x.2.2.2.1 ∧ g4 x.2.2.2.2.1 ∧ g5 x.2.2.2.2.2) (fun x => b0 x.1 + b1 x.2.1 + b2 x.2.2.1 + b3 x.2.2.2.1 + b4 x.2.2.2.2.1 + b5 x.2.2.2.2.2 + 1) where
  sz := hc
  one := fun l => Nat.le_add_left 1 _
  go := by
    intro H enc w base spare held fuel cs x hx
    obtain ⟨xs, n, _, rfl, hl, hlen, hf⟩ := DataW.trod_struct ht hx
    match xs, hlen with
    | [y0, y1, y2, y3, y4, y5], _ =>
      obtain ⟨a0, k0, q0, p0⟩ := h0.go (show DataW.trod enc P w base spare held n f0.type ((cs.drop f0.offset).take (P.cellsOf f0.type)) = some y0 from by simpa using hf 0 f0 rfl)
      rw [ho0, h0.sz] at k0
      obtain ⟨a1, k1, q1, p1⟩ := h1.go (show DataW.trod enc P w base spare held n f1.type ((cs.drop f1.offset).take (P.cellsOf f1.type)) = some y1 from by simpa using hf 1 f1 rfl)
      rw [ho1, h1.sz] at k1
      obtain ⟨a2, k2, q2, p2⟩ := h2.go (show DataW.trod enc P w base spare held n f2.type ((cs.drop f2.offset).take (P.cellsOf f2.type)) = some y2 from by simpa using hf 2 f2 rfl)
      rw [ho2, h2.sz] at k2
      obtain ⟨a3, k3, q3, p3⟩ := h3.go (show DataW.trod enc P w base spare held n f3.type ((cs.drop f3.offset).take (P.cellsOf f3.type)) = some y3 from by simpa using hf 3 f3 rfl)
      rw [ho3, h3.sz] at k3
      obtain ⟨a4, k4, q4, p4⟩ := h4.go (show DataW.trod enc P w base spare held n f4.type ((cs.drop f4.offset).take (P.cellsOf f4.type)) = some y4 from by simpa using hf 4 f4 rfl)
      rw [ho4, h4.sz] at k4
      obtain ⟨a5, k5, q5, p5⟩ := h5.go (show DataW.trod enc P w base spare held n f5.type ((cs.drop f5.offset).take (P.cellsOf f5.type)) = some y5 from by simpa using hf 5 f5 rfl)
      rw [ho5, h5.sz] at k5
      refine ⟨(a0, a1, a2, a3, a4, a5), ⟨_, _, ?_, k0, _, _, rfl, k1, _, _, rfl, k2, _, _, rfl, k3, _, _, rfl, k4, k5⟩, ⟨q0, q1, q2, q3, q4, q5⟩, ?_⟩
      · rw [List.drop_zero]
        have hd : (cs.drop (d0.sz + d1.sz + d2.sz + d3.sz + d4.sz)).take d5.sz = cs.drop (d0.sz + d1.sz + d2.sz + d3.sz + d4.sz) := List.take_of_length_le (by rw [List.length_drop]; omega)
        rw [hd, seg_join, seg_join, seg_join, seg_join, List.take_append_drop]
      · simp only [List.map_cons, List.map_nil, Rows.uptoBulk, Rows.uptoBulkAll]
        omega
theorem opens_struct7 {P : Program} {t : TypeId} {f0 f1 f2 f3 f4 f5 f6 : Field} {α0 α1 α2 α3 α4 α5 α6 : Type} {d0 : Kd α0} {d1 : Kd α1} {d2 : Kd α2} {d3 : Kd α3} {d4 : Kd α4} {d5 : Kd α5} {d6 : Kd α6} {g0 : α0 → Prop} {g1 : α1 → Prop} {g2 : α2 → Prop} {g3 : α3 → Prop} {g4 : α4 → Prop} {g5 : α5 → Prop} {g6 : α6 → Prop} {b0 : α0 → Nat} {b1 : α1 → Nat} {b2 : α2 → Nat} {b3 : α3 → Nat} {b4 : α4 → Nat} {b5 : α5 → Nat} {b6 : α6 → Nat} (ht : P.underlying t = some (.struct #[f0, f1, f2, f3, f4, f5, f6])) (hc : P.cellsOf t = (d0.sz + (d1.sz + (d2.sz + (d3.sz + (d4.sz + (d5.sz + d6.sz)))))))
    (ho0 : f0.offset = 0) (ho1 : f1.offset = d0.sz) (ho2 : f2.offset = d0.sz + d1.sz) (ho3 : f3.offset = d0.sz + d1.sz + d2.sz) (ho4 : f4.offset = d0.sz + d1.sz + d2.sz + d3.sz) (ho5 : f5.offset = d0.sz + d1.sz + d2.sz + d3.sz + d4.sz) (ho6 : f6.offset = d0.sz + d1.sz + d2.sz + d3.sz + d4.sz + d5.sz) (h0 : Opens P f0.type d0 g0 b0) (h1 : Opens P f1.type d1 g1 b1) (h2 : Opens P f2.type d2 g2 b2) (h3 : Opens P f3.type d3 g3 b3) (h4 : Opens P f4.type d4 g4 b4) (h5 : Opens P f5.type d5 g5 b5) (h6 : Opens P f6.type d6 g6 b6) : Opens P t (Kd.pair d0 (Kd.pair d1 (Kd.pair d2 (Kd.pair d3 (Kd.pair d4 (Kd.pair d5 d6)))))) (fun x => g0 x.1 ∧ g1 x.2.1 ∧ g2 x.2.2.1 ∧ g3 x.2.2.2.1 ∧ g4 x.2.2.2.2.1 ∧ g5 x.2.2.2.2.2.1 ∧ g6 x.2.2.2.2.2.2) (fun x => b0 x.1 + b1 x.2.1 + b2 x.2.2.1 + b3 x.2.2.2.1 + b4 x.2.2.2.2.1 + b5 x.2.2.2.2.2.1 + b6 x.2.2.2.2.2.2 + 1) where
  sz := hc
  one := fun l => Nat.le_add_left 1 _
  go := by
    intro H enc w base spare held fuel cs x hx
    obtain ⟨xs, n, _, rfl, hl, hlen, hf⟩ := DataW.trod_struct ht hx
    match xs, hlen with
    | [y0, y1, y2, y3, y4, y5, y6], _ =>
      obtain ⟨a0, k0, q0, p0⟩ := h0.go (show DataW.trod enc P w base spare held n f0.type ((cs.drop f0.offset).take (P.cellsOf f0.type)) = some y0 from by simpa using hf 0 f0 rfl)
      rw [ho0, h0.sz] at k0
      obtain ⟨a1, k1, q1, p1⟩ := h1.go (show DataW.trod enc P w base spare held n f1.type ((cs.drop f1.offset).take (P.cellsOf f1.type)) = some y1 from by simpa using hf 1 f1 rfl)
      rw [ho1, h1.sz] at k1
      obtain ⟨a2, k2, q2, p2⟩ := h2.go (show DataW.trod enc P w base spare held n f2.type ((cs.drop f2.offset).take (P.cellsOf f2.type)) = some y2 from by simpa using hf 2 f2 rfl)
      rw [ho2, h2.sz] at k2
      obtain ⟨a3, k3, q3, p3⟩ := h3.go (show DataW.trod enc P w base spare held n f3.type ((cs.drop f3.offset).take (P.cellsOf f3.type)) = some y3 from by simpa using hf 3 f3 rfl)
      rw [ho3, h3.sz] at k3
      obtain ⟨a4, k4, q4, p4⟩ := h4.go (show DataW.trod enc P w base spare held n f4.type ((cs.drop f4.offset).take (P.cellsOf f4.type)) = some y4 from by simpa using hf 4 f4 rfl)
      rw [ho4, h4.sz] at k4
      obtain ⟨a5, k5, q5, p5⟩ := h5.go (show DataW.trod enc P w base spare held n f5.type ((cs.drop f5.offset).take (P.cellsOf f5.type)) = some y5 from by simpa using hf 5 f5 rfl)
      rw [ho5, h5.sz] at k5
      obtain ⟨a6, k6, q6, p6⟩ := h6.go (show DataW.trod enc P w base spare held n f6.type ((cs.drop f6.offset).take (P.cellsOf f6.type)) = some y6 from by simpa using hf 6 f6 rfl)
      rw [ho6, h6.sz] at k6
      refine ⟨(a0, a1, a2, a3, a4, a5, a6), ⟨_, _, ?_, k0, _, _, rfl, k1, _, _, rfl, k2, _, _, rfl, k3, _, _, rfl, k4, _, _, rfl, k5, k6⟩, ⟨q0, q1, q2, q3, q4, q5, q6⟩, ?_⟩
      · rw [List.drop_zero]
        have hd : (cs.drop (d0.sz + d1.sz + d2.sz + d3.sz + d4.sz + d5.sz)).take d6.sz = cs.drop (d0.sz + d1.sz + d2.sz + d3.sz + d4.sz + d5.sz) := List.take_of_length_le (by rw [List.length_drop]; omega)
        rw [hd, seg_join, seg_join, seg_join, seg_join, seg_join, List.take_append_drop]
      · simp only [List.map_cons, List.map_nil, Rows.uptoBulk, Rows.uptoBulkAll]
        omega
/-- a kind that is told by a structure of its own -/
theorem opens_iso {P : Program} {t : TypeId} {α β : Type} {d : Kd α} {good : α → Prop} {bulk : α → Nat} (h : Opens P t d good bulk) (f : β → α) (g : α → β) (hfg : ∀ a, f (g a) = a) : Opens P t (Kd.iso d f) (fun x => good (f x)) (fun x => bulk (f x)) where
  sz := h.sz
  one := fun x => h.one (f x)
  go := by
    intro H enc w base spare held fuel cs x hx
    obtain ⟨a, k, q, p⟩ := h.go hx
    refine ⟨g a, ?_, ?_, ?_⟩
    · show d.K w (f (g a)) cs
      rw [hfg]; exact k
    · rw [hfg]; exact q
    · rw [hfg]; exact p
/-- an argument's bulk, of the whole's -/
theorem bulk_bound {H : Type} {ds : List (DataW H)} (hk : Rows.uptoSmall H ds = true) : Rows.uptoBulkAll ds ≤ 1048576 := of_decide_eq_true hk

end Go.Proofs.Ythkooncibfkepaa.G

/- Printed by the session's program over the kit's print, out of the translation: functions as plain Lean functions, and the proofs that the calls come to them. -/
namespace Go.Proofs.Ythkooncibfkepaa.G
open Go.RowKit Go.Proofs.YthkooncibfkepaaW.PrintWords Go.Proofs.YthkooncibfkepaaW.PrintLast Go.Proofs.YthkooncibfkepaaW.PrintMore
attribute [local go_sem] max2_int min2_int max_two min_two max_three min_three max_four min_four   -- for this text's walks alone
set_option linter.unusedVariables false
set_option linter.unusedSimpArgs false

/-! ### morainelaw04_names: function 14 -/
def morainelaw04_names.f  : Option (Bool) := some true
set_option maxHeartbeats 8000000 in
set_option maxRecDepth 100000 in
theorem morainelaw04_names.calls  (r : Bool) (w : World) (h : morainelaw04_names.f  = some r) :
    Calls Try.prog 14 #[] w fun e w' => e = .returned (.bool r) ∧ Drawn0 w w' := by
  have H : (some true) = some r := h
  clear h
  obtain rfl := Option.some.inj H
  go_enter Try.func14, Try.ntmps14
  go_wp2
  go_ret
  exact ⟨by first | rfl | (simp; done) | (simp [*]; done), by repeat (first | exact Drawn0.refl _ | apply Drawn0.step)⟩

end Go.Proofs.Ythkooncibfkepaa.G

/- Contracts typed by hand: the law BatchChecks: its walk -/
namespace Go.Proofs.Ythkooncibfkepaa.G
open Go.RowKit Go.Proofs.YthkooncibfkepaaW.PrintWords Go.Proofs.YthkooncibfkepaaW.PrintLast Go.Proofs.YthkooncibfkepaaW.PrintMore
attribute [local go_sem] max2_int min2_int max_two min_two max_three min_three max_four min_four
set_option linter.unusedVariables false
set_option linter.unusedSimpArgs false

/-! the law BatchChecks: its walk -/
theorem copied_out {A : Option Addr} {c : Nat} {l : List S65} {w : World} {b : Nat} {ok : Nat → Prop} (h : Kd.R k65 65 w b ok (.slice A (l.length + 1) c) (l ++ [mark04])) : Kd.C k65 w A (l.length + 1) (l ++ [mark04]) ∧ l.length + 1 ≤ c := by
  have := Kd.R_reads' h
  rw [mark04_len] at this
  exact ⟨this.2.2, this.2.1⟩
set_option maxHeartbeats 4000000 in
set_option maxRecDepth 100000 in
theorem BatchChecks_calls (k : Nat) (A0 : Option Addr) (c0 : Nat) (l0 : List S65) (w : World) (hc0 : l0.length ≤ c0) (hr0 : Kd.C k65 w A0 l0.length l0) (hl : l0.length ≤ 2097152) (r1 r2 s1 s2 : Int)
    (h1 : batch_Check.f k l0 = some (r1, r2)) (h2 : moraineref04_Check.f k l0 = some (r1, r2)) (h3 : batch_Size.f k l0 = some (s1, s2)) (h4 : moraineref04_Size.f k l0 = some (s1, s2)) :
    Calls Try.prog 3 #[.slice A0 l0.length c0] w fun e w' => e = .returned (.bool true) ∧ Below w.heap.size w w' := by
  have HR0 := Aside0.mk hr0
  have HC0 := Aside0.mk hc0
  have HL := Aside0.mk hl
  have H1 := Aside0.mk h1
  have H2 := Aside0.mk h2
  have H3 := Aside0.mk h3
  have H4 := Aside0.mk h4
  clear hc0 hr0 hl h1 h2 h3 h4
  go_enter Try.func3, Try.ntmps3
  go_wp2_with fail
  (with_reducible refine (morainelaw04_names.calls true _ rfl).mono ?_)
  rintro e w1 ⟨rfl, hd⟩
  have HB1 := Aside0.mk hd.below
  clear hd
  go_wp2_with fail
  (with_reducible refine (morainelaw04_copied.calls A0 c0 l0 _ (Kd.C_below HR0.out HB1.out) HL.out).mono ?_)
  rintro e w2 ⟨A2, c2, rfl, ho, hb⟩
  have HB2 := Aside0.mk (below_step HB1.out hb)
  have HO2 := Aside0.mk (copied_out ho)
  have HP2 := Aside0.mk (C_prefix65 (ys := [mark04]) (copied_out ho).1)
  have HC2 := Aside0.mk (show l0.length ≤ c2 by have := (copied_out ho).2; omega)
  clear hb ho
  go_wp2_with fail
  (with_reducible refine (batch_Check.calls k A2 c2 l0 _ _ _ HP2.out HC2.out H1.out).mono ?_)
  rintro e w3 ⟨rfl, hb⟩
  have HB3 := Aside0.mk (below_step HB2.out hb)
  have HN3 := Aside0.mk hb
  clear hb
  go_wp2_with fail
  (with_reducible refine (moraineref04_Check.calls k A0 c0 l0 _ _ _ (Kd.C_below HR0.out HB3.out) HC0.out H2.out).mono ?_)
  rintro e w4 ⟨rfl, hb⟩
  have HB4 := Aside0.mk (below_step HB3.out hb)
  have HN4 := Aside0.mk (below_step HN3.out hb)
  clear hb
  go_wp2_with fail
  (with_reducible refine (batch_Size.calls k A2 c2 l0 _ _ _ (Kd.C_below HP2.out HN4.out) HC2.out H3.out).mono ?_)
  rintro e w5 ⟨rfl, hb⟩
  have HB5 := Aside0.mk (below_step HB4.out hb)
  have HN5 := Aside0.mk (below_step HN4.out hb)
  clear hb
  go_wp2_with fail
  (with_reducible refine (moraineref04_Size.calls k A0 c0 l0 _ _ _ (Kd.C_below HR0.out HB5.out) HC0.out H4.out).mono ?_)
  rintro e w6 ⟨rfl, hb⟩
  have HB6 := Aside0.mk (below_step HB5.out hb)
  have HN6 := Aside0.mk (below_step HN5.out hb)
  clear hb
  go_wp2_with fail
  (with_reducible refine (morainelaw04_stay.calls A2 c2 l0 A0 c0 _ (Kd.C_below HO2.out.1 HN6.out) HO2.out.2 (Kd.C_below HR0.out HB6.out) HC0.out HL.out).mono ?_)
  rintro e w7 ⟨rfl, hd⟩
  have HB7 := Aside0.mk (below_step HB6.out hd.below)
  clear hd
  go_wp2
  go_ret
  exact ⟨by simp, HB7.out⟩
theorem sane_of_bulk {l : List S65} (h : sumBulk (fun x : S65 => 1 + (x.f1.size + 1) + (x.f2.size + 1) + 1) l ≤ 1048576) : Sane l := by
  refine ⟨Nat.le_trans (sumBulk_len _ (fun x => by omega) l) h, fun x hx => ?_⟩
  have := sumBulk_mem (fun x : S65 => 1 + (x.f1.size + 1) + (x.f2.size + 1) + 1) hx
  (try simp only [] at this)
  omega
theorem BatchChecks_upto (w : World) (A0 : Option Addr) (c0 : Nat) (l0 : List S65) (hc0 : l0.length ≤ c0) (hr0 : Kd.C k65 w A0 l0.length l0) (hg0 : ∀ x ∈ l0, (Lit.int .i64 x.f0).wf = true ∧ x.f1.size ≤ maxLen ∧ x.f2.size ≤ maxLen)
    (hbulk : (sumBulk (fun x : S65 => 1 + (x.f1.size + 1) + (x.f2.size + 1) + 1) l0 + 1) ≤ 1048576) :
    Calls Try.prog 3 #[.slice A0 l0.length c0] w fun e w' => e = .returned (.bool true) ∧ Below w.heap.size w w' := by
  have hs := sane_of_bulk (l := l0) (by omega)
  have hl := hs.1
  exact BatchChecks_calls (13 + 2 * l0.length) A0 c0 l0 w hc0 hr0 (by omega) _ _ _ _ (check_eq _ l0 hs (by omega)) (refcheck_eq _ l0 hs (by omega)) (batchsize_eq _ l0 hs (by omega)) (refSize_eq _ l0 hs (by omega))

end Go.Proofs.Ythkooncibfkepaa.G

/- Printed by the session's program over the kit's print, out of the translation: functions as plain Lean functions, and the proofs that the calls come to them. -/
namespace Go.Proofs.Ythkooncibfkepaa.G
open Go.RowKit Go.Proofs.YthkooncibfkepaaW.PrintWords Go.Proofs.YthkooncibfkepaaW.PrintLast Go.Proofs.YthkooncibfkepaaW.PrintMore
attribute [local go_sem] max2_int min2_int max_two min_two max_three min_three max_four min_four   -- for this text's walks alone
set_option linter.unusedVariables false
set_option linter.unusedSimpArgs false

/-! ### morainelaw04_works: function 39 -/
def morainelaw04_works.f (k : Nat)  : Option (Bool) := (batch_Encode.f k 1 (([(⟨1, (⟨#[107]⟩ : ByteArray), (⟨#[118]⟩ : ByteArray)⟩ : S65), (⟨0, (⟨#[100]⟩ : ByteArray), (⟨#[]⟩ : ByteArray)⟩ : S65)] : List (S65)))).bind fun bt294 => (if bt294.2 = 0 then (some ((strOfNums bt294.1).toList == ([1, 0, 0, 0, 0, 0, 0, 0, 2, 0, 0, 0, 1, 1, 107, 1, 118, 0, 1, 100] : List UInt8))) else (some false))
theorem morainelaw04_works.mono : ∀ k, LeO (morainelaw04_works.f k ) (morainelaw04_works.f (k + 1) ) := by
  intro  k
  unfold morainelaw04_works.f
  repeat' first
      | (with_reducible exact batch_Encode.mono _ _ _)
      | (with_reducible exact LeO.refl _)
      | (with_reducible exact LeO.none _)
      | (with_reducible refine LeO.ite ?_ ?_)
      | (with_reducible refine LeO.bind ?_ (fun _ => ?_))
      | exact batch_Encode.mono _ _ _
      | exact LeO.none _
      | refine LeO.ite ?_ ?_
      | refine LeO.bind ?_ (fun _ => ?_)
set_option maxHeartbeats 8000000 in
set_option maxRecDepth 100000 in
theorem morainelaw04_works.calls (k : Nat)  (r : Bool) (w : World) (h : morainelaw04_works.f k  = some r) :
    Calls Try.prog 39 #[] w fun e w' => e = .returned (.bool r) ∧ Below w.heap.size w w' := by
  have hu65 := Try.underlying65
  have HB := Aside0.mk (Below.refl w.heap.size w)
  have H : ((batch_Encode.f k 1 (([(⟨1, (⟨#[107]⟩ : ByteArray), (⟨#[118]⟩ : ByteArray)⟩ : S65), (⟨0, (⟨#[100]⟩ : ByteArray), (⟨#[]⟩ : ByteArray)⟩ : S65)] : List (S65)))).bind fun bt294 => (if bt294.2 = 0 then (some ((strOfNums bt294.1).toList == ([1, 0, 0, 0, 0, 0, 0, 0, 2, 0, 0, 0, 1, 1, 107, 1, 118, 0, 1, 100] : List UInt8))) else (some false))) = some r := h
  clear h
  obtain ⟨y291, hy291⟩ : ∃ y_ : List (S65), y_ = (([(⟨1, (⟨#[107]⟩ : ByteArray), (⟨#[118]⟩ : ByteArray)⟩ : S65), (⟨0, (⟨#[100]⟩ : ByteArray), (⟨#[]⟩ : ByteArray)⟩ : S65)] : List (S65))) := ⟨_, rfl⟩
  replace H : ((batch_Encode.f k 1 y291).bind fun bt294 => (if bt294.2 = 0 then (some ((strOfNums bt294.1).toList == ([1, 0, 0, 0, 0, 0, 0, 0, 2, 0, 0, 0, 1, 1, 107, 1, 118, 0, 1, 100] : List UInt8))) else (some false))) = some r := by first | (rw [hy291]; with_reducible exact H) | (have H2_ := (Option.bind_some _ _).symm.trans H; rw [hy291]; with_reducible exact H2_) | (have H2_ := (Option.bind_some _ _).symm.trans H; with_reducible exact H2_) | with_reducible exact H | (rw [hy291]; exact H) | exact H
  have Ny291 := Aside0.mk hy291
  clear hy291
  replace H := Option.bind_eq_some_iff.mp H
  obtain ⟨⟨t294, t295⟩, A10, H⟩ := H
  replace H : (if t295 = 0 then (some ((strOfNums t294).toList == ([1, 0, 0, 0, 0, 0, 0, 0, 2, 0, 0, 0, 1, 1, 107, 1, 118, 0, 1, 100] : List UInt8))) else (some false)) = some r := H
  have A1 := Aside0.mk A10
  clear A10
  by_cases c2 : t295 = 0
  · rw [if_pos c2] at H
    have c2b0 : (t295 == 0) = true := beq_iff_eq.mpr c2
    have c2b1 : (t295 != 0) = false := bne_eq_false_iff_eq.mpr c2
    clear c2
    obtain rfl := Option.some.inj H
    go_enter Try.func39, Try.ntmps39
    go_wp2_with (first | ((with_reducible refine gate_dst (N := 6) rfl ?_); refine Kd.R_lit k65 _ 65 ?hg (N := 6) ?hd (xs := ([(⟨1, (⟨#[107]⟩ : ByteArray), (⟨#[118]⟩ : ByteArray)⟩ : S65), (⟨0, (⟨#[100]⟩ : ByteArray), (⟨#[]⟩ : ByteArray)⟩ : S65)] : List (S65))) (inner := [.int .i64 1, .string (⟨#[107]⟩ : ByteArray), .string (⟨#[118]⟩ : ByteArray), .int .i64 0, .string (⟨#[100]⟩ : ByteArray), .string (⟨#[]⟩ : ByteArray)]) (ok := fun _ => True) (okp := fun _ => True) ?hr ?hp (fun _ hk => hk) trivial (Below.refl _ _) (Nat.le_refl _) (by simp) ?_; (case hd => rfl); (case hg => rfl); (case hr => first | (go_simp; done) | (go_simp; rfl)); (case hp => exact (Reps.c3 (show Kd.M k65 _ _ _ (⟨1, (⟨#[107]⟩ : ByteArray), (⟨#[118]⟩ : ByteArray)⟩ : S65) [.int .i64 1, .string (⟨#[107]⟩ : ByteArray), .string (⟨#[118]⟩ : ByteArray)] from (k65_mkM _ _ _ (⟨1, (⟨#[107]⟩ : ByteArray), (⟨#[118]⟩ : ByteArray)⟩ : S65) )) (Reps.c3 (show Kd.M k65 _ _ _ (⟨0, (⟨#[100]⟩ : ByteArray), (⟨#[]⟩ : ByteArray)⟩ : S65) [.int .i64 0, .string (⟨#[100]⟩ : ByteArray), .string (⟨#[]⟩ : ByteArray)] from (k65_mkM _ _ _ (⟨0, (⟨#[100]⟩ : ByteArray), (⟨#[]⟩ : ByteArray)⟩ : S65) )) (Reps.none _ _)))); intro v292 w3 ho4 hb hg_ hnew_; clear hg_ hnew_; (first | rw [← Ny291.out] at ho4 | (simp only [Int.reduceToNat] at ho4; rw [← Ny291.out] at ho4)); have n0_ := Aside0.mk (Kd.R_lower ho4 (below_size (by repeat (first | (with_reducible first | exact HB.out | apply below_alloc | apply pw_below_drewN | apply below_drew1) | exact HB.out)))); have n1_ := Aside0.mk (below_step (by repeat (first | (with_reducible first | exact HB.out | apply below_alloc | apply pw_below_drewN | apply below_drew1) | exact HB.out)) hb); clear HB; have HO293 := n0_; have HB := n1_; clear n0_ n1_; clear hb ho4; obtain ⟨Ao5, co5, eo5⟩ := Kd.R_slice HO293.out; subst eo5) | ((with_reducible refine gate_callee (f := 21) rfl ?_); refine goesL_ (some 7) rfl rfl Try.func21 (by kernel_rfl) rfl #[.int .u64 1, .slice Ao5 y291.length co5] rfl (by (try simp only [List.map_toArray, List.map_cons, List.map_nil]); first | done | rfl | (simp only [List.length_drop, List.length_take]; rfl)) ?_; (with_reducible refine (batch_Encode.calls k 1 _ _ y291 t294 t295 _ ?side1 ?side2 A1.out).mono ?_); (case side1 => repeat (first | exact (Kd.R_reads' HO293.out).2.2 | (with_reducible refine Kd.C_alloc ?_ _) | (with_reducible refine Kd.C_drewN ?_ _) | (with_reducible refine Kd.C_drew ?_))); (case side2 => exact (Kd.R_reads' HO293.out).2.1); rintro e w6 ⟨v296, rfl, ho0, hb⟩; refine ⟨_, rfl, ?_⟩; have n0_ := Aside0.mk (Kd.R_below (by (with_reducible repeat (first | apply Kd.R_alloc | apply Kd.R_drewN | apply Kd.R_drew)); exact HO293.out) hb); have n1_ := Aside0.mk (Kd.R_lower ho0 (below_size (by repeat (first | (with_reducible first | exact HB.out | apply below_alloc | apply pw_below_drewN | apply below_drew1) | exact HB.out)))); have n2_ := Aside0.mk (below_step (by repeat (first | (with_reducible first | exact HB.out | apply below_alloc | apply pw_below_drewN | apply below_drew1) | exact HB.out)) hb); clear HO293; clear HB; have HO293 := n0_; have HO297 := n1_; have HB := n2_; clear n0_ n1_ n2_; (try clear hb); (try clear hb2); (try clear hk); (try clear hi); (try clear ho0); have hcv7 := own_string (P := Try.prog) Try.underlying33 Try.underlying5 Try.underlying9 (Kd.own_of_R HO297.out)))
    go_ret
    exact ⟨by first | rfl | (simp [errW_none, errW_some] <;> rfl) | (simp [*, errW_none, errW_some] <;> rfl), by repeat (first | (with_reducible first | exact HB.out | apply below_alloc | apply pw_below_drewN | apply below_drew1) | exact HB.out)⟩
  · rw [if_neg c2] at H
    have c2b0 : (t295 == 0) = false := beq_eq_false_iff_ne.mpr c2
    have c2b1 : (t295 != 0) = true := bne_iff_ne.mpr c2
    obtain rfl := Option.some.inj H
    go_enter Try.func39, Try.ntmps39
    go_wp2_with (first | ((with_reducible refine gate_dst (N := 6) rfl ?_); refine Kd.R_lit k65 _ 65 ?hg (N := 6) ?hd (xs := ([(⟨1, (⟨#[107]⟩ : ByteArray), (⟨#[118]⟩ : ByteArray)⟩ : S65), (⟨0, (⟨#[100]⟩ : ByteArray), (⟨#[]⟩ : ByteArray)⟩ : S65)] : List (S65))) (inner := [.int .i64 1, .string (⟨#[107]⟩ : ByteArray), .string (⟨#[118]⟩ : ByteArray), .int .i64 0, .string (⟨#[100]⟩ : ByteArray), .string (⟨#[]⟩ : ByteArray)]) (ok := fun _ => True) (okp := fun _ => True) ?hr ?hp (fun _ hk => hk) trivial (Below.refl _ _) (Nat.le_refl _) (by simp) ?_; (case hd => rfl); (case hg => rfl); (case hr => first | (go_simp; done) | (go_simp; rfl)); (case hp => exact (Reps.c3 (show Kd.M k65 _ _ _ (⟨1, (⟨#[107]⟩ : ByteArray), (⟨#[118]⟩ : ByteArray)⟩ : S65) [.int .i64 1, .string (⟨#[107]⟩ : ByteArray), .string (⟨#[118]⟩ : ByteArray)] from (k65_mkM _ _ _ (⟨1, (⟨#[107]⟩ : ByteArray), (⟨#[118]⟩ : ByteArray)⟩ : S65) )) (Reps.c3 (show Kd.M k65 _ _ _ (⟨0, (⟨#[100]⟩ : ByteArray), (⟨#[]⟩ : ByteArray)⟩ : S65) [.int .i64 0, .string (⟨#[100]⟩ : ByteArray), .string (⟨#[]⟩ : ByteArray)] from (k65_mkM _ _ _ (⟨0, (⟨#[100]⟩ : ByteArray), (⟨#[]⟩ : ByteArray)⟩ : S65) )) (Reps.none _ _)))); intro v292 w8 ho9 hb hg_ hnew_; clear hg_ hnew_; (first | rw [← Ny291.out] at ho9 | (simp only [Int.reduceToNat] at ho9; rw [← Ny291.out] at ho9)); have n0_ := Aside0.mk (Kd.R_lower ho9 (below_size (by repeat (first | (with_reducible first | exact HB.out | apply below_alloc | apply pw_below_drewN | apply below_drew1) | exact HB.out)))); have n1_ := Aside0.mk (below_step (by repeat (first | (with_reducible first | exact HB.out | apply below_alloc | apply pw_below_drewN | apply below_drew1) | exact HB.out)) hb); clear HB; have HO293 := n0_; have HB := n1_; clear n0_ n1_; clear hb ho9; obtain ⟨Ao10, co10, eo10⟩ := Kd.R_slice HO293.out; subst eo10) | ((with_reducible refine gate_callee (f := 21) rfl ?_); refine goesL_ (some 7) rfl rfl Try.func21 (by kernel_rfl) rfl #[.int .u64 1, .slice Ao10 y291.length co10] rfl (by (try simp only [List.map_toArray, List.map_cons, List.map_nil]); first | done | rfl | (simp only [List.length_drop, List.length_take]; rfl)) ?_; (with_reducible refine (batch_Encode.calls k 1 _ _ y291 t294 t295 _ ?side1 ?side2 A1.out).mono ?_); (case side1 => repeat (first | exact (Kd.R_reads' HO293.out).2.2 | (with_reducible refine Kd.C_alloc ?_ _) | (with_reducible refine Kd.C_drewN ?_ _) | (with_reducible refine Kd.C_drew ?_))); (case side2 => exact (Kd.R_reads' HO293.out).2.1); rintro e w11 ⟨v296, rfl, ho0, hb⟩; refine ⟨_, rfl, ?_⟩; have n0_ := Aside0.mk (Kd.R_below (by (with_reducible repeat (first | apply Kd.R_alloc | apply Kd.R_drewN | apply Kd.R_drew)); exact HO293.out) hb); have n1_ := Aside0.mk (Kd.R_lower ho0 (below_size (by repeat (first | (with_reducible first | exact HB.out | apply below_alloc | apply pw_below_drewN | apply below_drew1) | exact HB.out)))); have n2_ := Aside0.mk (below_step (by repeat (first | (with_reducible first | exact HB.out | apply below_alloc | apply pw_below_drewN | apply below_drew1) | exact HB.out)) hb); clear HO293; clear HB; have HO293 := n0_; have HO297 := n1_; have HB := n2_; clear n0_ n1_ n2_; (try clear hb); (try clear hb2); (try clear hk); (try clear hi); (try clear ho0)))
    go_ret
    exact ⟨by first | rfl | (simp [errW_none, errW_some] <;> rfl) | (simp [*, errW_none, errW_some] <;> rfl), by repeat (first | (with_reducible first | exact HB.out | apply below_alloc | apply pw_below_drewN | apply below_drew1) | exact HB.out)⟩

end Go.Proofs.Ythkooncibfkepaa.G

/- Contracts typed by hand: the law BatchBack: its walk -/
namespace Go.Proofs.Ythkooncibfkepaa.G
open Go.RowKit Go.Proofs.YthkooncibfkepaaW.PrintWords Go.Proofs.YthkooncibfkepaaW.PrintLast Go.Proofs.YthkooncibfkepaaW.PrintMore
attribute [local go_sem] max2_int min2_int max_two min_two max_three min_three max_four min_four
set_option linter.unusedVariables false
set_option linter.unusedSimpArgs false

/-! the law BatchBack: its walk -/
theorem works_true (k : Nat) (hk : 13 ≤ k) : morainelaw04_works.f k = some true := by
  unfold morainelaw04_works.f
  rw [encode_eq k 1 _ (by decide) ⟨by decide, fun x hx => by simp at hx; rcases hx with rfl | rfl <;> exact ⟨by decide, by decide⟩⟩ (by simpa using hk)]
  have h : encR 1 [(⟨1, (⟨#[107]⟩ : ByteArray), (⟨#[118]⟩ : ByteArray)⟩ : S65), (⟨0, (⟨#[100]⟩ : ByteArray), (⟨#[]⟩ : ByteArray)⟩ : S65)] = ([1, 0, 0, 0, 0, 0, 0, 0, 2, 0, 0, 0, 1, 1, 107, 1, 118, 0, 1, 100], 0) := by decide +kernel
  rw [h, Option.bind_some]
  simp only [if_true]
  decide +kernel
theorem batch_Decode_calls' (A : Option Addr) (c : Nat) (b : List Int) (r : Int × List Op04 × Int) (w : World) (hr0 : Kd.C (Kd.int .u8) w A b.length b) (hc : b.length ≤ c) (hb : Bytes b) (hlen : b.length ≤ 1048576) (h : decB b = r) :
    Calls Try.prog 33 #[.slice A b.length c] w fun e w' => ∃ v0_ : Value, e = .returned (.tuple #[.int .u64 r.1, v0_, .int .i64 r.2.2]) ∧ Kd.R k65 65 w' w.heap.size (fun _ => True) v0_ r.2.1 ∧ Below w.heap.size w w' := by
  subst h
  exact batch_Decode_calls A c b w hr0 hc hb hlen
theorem encR_short (seq : Int) (l : List Op04) (h : (encR seq l).2 = 0) : (encR seq l).1.length ≤ 1048576 ∧ Bytes (encR seq l).1 := by
  obtain ⟨hc, hf, e⟩ := encR_ok h
  have ht := (chk_ok hc).2.2.2
  rw [e]
  refine ⟨?_, encB_bytes _ _⟩
  show (encB seq l).length ≤ 1048576
  rw [encB_len]
  exact ht
theorem decB_seq (b : List Int) (hb : Bytes b) : 0 ≤ (decB b).1 := by
  have h := (seg8_small b hb).1
  unfold decB
  split
  · exact Int.le_refl _
  · split
    · exact h
    · exact Int.le_refl _
theorem decB_sane (b : List Int) (hb : Bytes b) (hl : b.length ≤ 1048576) : Sane (decB b).2.1 := by
  have h := sane_gone b hb hl
  have h0 : Sane ([] : List Op04) := ⟨by simp, fun x hx => by cases hx⟩
  unfold decB
  split
  · exact h0
  · split
    · exact h
    · exact h0
set_option maxHeartbeats 8000000 in
set_option maxRecDepth 100000 in
theorem BatchBack_aa (a0 : Int) (h0 : 0 ≤ a0) (h64 : a0 < 18446744073709551616) (A1 : Option Addr) (c1 : Nat) (l1 : List Op04) (A2 : Option Addr) (c2 : Nat) (l2 : List Int) (w : World) (hc1 : l1.length ≤ c1) (hr1 : Kd.C k65 w A1 l1.length l1) (hs : Sane l1) (hc2 : l2.length ≤ c2) (hr2 : Kd.C (Kd.int .u8) w A2 l2.length l2) (hb2 : Bytes l2) (hl2 : l2.length ≤ 1048576)
    (hf : (encR a0 l1).2 = 0) (hd : (decB l2).2.2 = 0) :
    Calls Try.prog 7 #[.int .u64 a0, .slice A1 l1.length c1, .slice A2 l2.length c2] w fun e w' => e = .returned (.bool true) ∧ Below w.heap.size w w' := by
  have HR1 := Aside0.mk hr1
  have HC1 := Aside0.mk hc1
  have HR2 := Aside0.mk hr2
  have HC2 := Aside0.mk hc2
  have HB2 := Aside0.mk hb2
  have HL2 := Aside0.mk hl2
  have HS := Aside0.mk (show l1.length ≤ 1099511627776 from Nat.le_trans (And.left (show _ ∧ _ from hs)) (by decide))
  have H1 := Aside0.mk (encode_eq (11 + l1.length) a0 l1 h0 hs (Nat.le_refl _))
  have HE := Aside0.mk (encR_short a0 l1 hf)
  have HP := Aside0.mk (show decB (encR a0 l1).1 = (a0, l1, 0) by rw [(encR_ok hf).2.2]; exact decB_put a0 l1 h0 h64 hf)
  have HY := Aside0.mk (decB_at l2 hb2 hl2 hd).2
  have H3 := Aside0.mk (encode_eq (11 + (decB l2).2.1.length) (decB l2).1 (decB l2).2.1 (decB_seq l2 hb2) (decB_sane l2 hb2 hl2) (Nat.le_refl _))
  have hf2_ := hf
  clear hr1 hc1 hr2 hc2 hb2 hl2 hs hf
  go_enter Try.func7, Try.ntmps7
  go_wp2_with fail
  (with_reducible refine (morainelaw04_works.calls 13 true _ (works_true 13 (Nat.le_refl _))).mono ?_)
  rintro e w1 ⟨rfl, hb⟩
  have HW1 := Aside0.mk hb
  clear hb
  go_wp2_with fail
  (with_reducible refine (batch_Encode.calls _ a0 A1 c1 l1 _ _ _ (Kd.C_below HR1.out HW1.out) HC1.out H1.out).mono ?_)
  rintro e w2 ⟨v2, rfl, ho, hb⟩
  have HO2 := Aside0.mk ho
  have HW2 := Aside0.mk (below_step HW1.out hb)
  clear hb ho
  obtain ⟨r, hr⟩ : ∃ r, encR a0 l1 = r := ⟨_, rfl⟩
  have HO3 := HO2.out
  have HE3 := HE.out
  have HP3 := HP.out
  have hf0 : (encR a0 l1).2 = 0 := by have := hf2_; exact this
  rw [hr] at HO3 HE3 HP3 hf0 ⊢
  obtain ⟨r, f⟩ := r
  obtain rfl : f = 0 := hf0
  obtain ⟨A3, c3, rfl, hl3, hC3⟩ := Kd.R_reads HO3
  dsimp only [] at HE3 HP3 HO3 hl3 hC3 ⊢
  have HC3 := Aside0.mk hC3
  have HL3 := Aside0.mk hl3
  have HE4 := Aside0.mk HE3
  have HP4 := Aside0.mk HP3
  clear hr hf2_ HO2 HO3 HE HE3 HP HP3 hC3 hl3 H1
  go_wp2_with fail
  (with_reducible refine (batch_Decode_calls' A3 c3 r _ _ HC3.out HL3.out HE4.out.2 HE4.out.1 HP4.out).mono ?_)
  rintro e w3 ⟨v3, rfl, ho, hb⟩
  obtain ⟨A4, c4, rfl, hl4, hC4⟩ := Kd.R_reads ho
  have HC4 := Aside0.mk hC4
  have HL4 := Aside0.mk hl4
  have HW2 := Aside0.mk (below_step HW2.out hb)
  clear hb ho hC4 hl4
  go_wp2_with fail
  (with_reducible refine (morainelaw04_same.calls _ A4 c4 l1 A1 c1 l1 _ _ HC4.out HL4.out (Kd.C_below HR1.out HW2.out) HC1.out (same_self l1 HS.out)).mono ?_)
  rintro e w4 ⟨rfl, hd4⟩
  have HW2 := Aside0.mk (below_step HW2.out hd4.below)
  clear hd4
  go_wp2_with fail
  (with_reducible refine (batch_Decode_calls' A2 c2 l2 _ _ (Kd.C_below HR2.out HW2.out) HC2.out HB2.out HL2.out rfl).mono ?_)
  rintro e w5 ⟨v5, rfl, ho, hb⟩
  have HW5 := Aside0.mk (below_step HW2.out hb)
  have H33 := H3.out
  have HY3 := HY.out
  generalize decB l2 = D at ho H33 HY3 hd ⊢
  obtain ⟨n, L, z⟩ := D
  dsimp only [] at ho H33 HY3 hd ⊢
  subst hd
  obtain ⟨A6, c6, rfl, hl6, hC6⟩ := Kd.R_reads ho
  have HC6 := Aside0.mk hC6
  have HL6 := Aside0.mk hl6
  rw [HY3] at H33
  have H3 := Aside0.mk H33
  clear hb ho hC6 hl6 HY3 HY H33
  go_wp2_with fail
  (with_reducible refine (batch_Encode.calls _ n A6 c6 L _ _ _ HC6.out HL6.out H3.out).mono ?_)
  rintro e w7 ⟨v7, rfl, ho, hb⟩
  have HW7 := Aside0.mk (below_step HW5.out hb)
  have hcv7 := own_string (P := Try.prog) Try.underlying33 Try.underlying5 Try.underlying9 (Kd.own_of_R ho)
  obtain ⟨B7, d7, rfl⟩ := Kd.R_slice ho
  have hcv2 := Kd.C_string (P := Try.prog) (A := A2) (c := c2) Try.underlying33 Try.underlying5 Try.underlying9 (Kd.C_below HR2.out HW7.out)
  clear hb ho
  generalize hn : l2.length = m at *
  go_wp2
  go_ret
  exact ⟨by simp, HW7.out⟩
set_option maxHeartbeats 8000000 in
set_option maxRecDepth 100000 in
theorem BatchBack_ab (a0 : Int) (h0 : 0 ≤ a0) (h64 : a0 < 18446744073709551616) (A1 : Option Addr) (c1 : Nat) (l1 : List Op04) (A2 : Option Addr) (c2 : Nat) (l2 : List Int) (w : World) (hc1 : l1.length ≤ c1) (hr1 : Kd.C k65 w A1 l1.length l1) (hs : Sane l1) (hc2 : l2.length ≤ c2) (hr2 : Kd.C (Kd.int .u8) w A2 l2.length l2) (hb2 : Bytes l2) (hl2 : l2.length ≤ 1048576)
    (hf : (encR a0 l1).2 = 0) (hd : (decB l2).2.2 ≠ 0) :
    Calls Try.prog 7 #[.int .u64 a0, .slice A1 l1.length c1, .slice A2 l2.length c2] w fun e w' => e = .returned (.bool true) ∧ Below w.heap.size w w' := by
  have HR1 := Aside0.mk hr1
  have HC1 := Aside0.mk hc1
  have HR2 := Aside0.mk hr2
  have HC2 := Aside0.mk hc2
  have HB2 := Aside0.mk hb2
  have HL2 := Aside0.mk hl2
  have HS := Aside0.mk (show l1.length ≤ 1099511627776 from Nat.le_trans (And.left (show _ ∧ _ from hs)) (by decide))
  have H1 := Aside0.mk (encode_eq (11 + l1.length) a0 l1 h0 hs (Nat.le_refl _))
  have HE := Aside0.mk (encR_short a0 l1 hf)
  have HP := Aside0.mk (show decB (encR a0 l1).1 = (a0, l1, 0) by rw [(encR_ok hf).2.2]; exact decB_put a0 l1 h0 h64 hf)
  have HD := Aside0.mk (decB_bad l2 hd)
  have hf2_ := hf
  clear hr1 hc1 hr2 hc2 hb2 hl2 hs hf
  go_enter Try.func7, Try.ntmps7
  go_wp2_with fail
  (with_reducible refine (morainelaw04_works.calls 13 true _ (works_true 13 (Nat.le_refl _))).mono ?_)
  rintro e w1 ⟨rfl, hb⟩
  have HW1 := Aside0.mk hb
  clear hb
  go_wp2_with fail
  (with_reducible refine (batch_Encode.calls _ a0 A1 c1 l1 _ _ _ (Kd.C_below HR1.out HW1.out) HC1.out H1.out).mono ?_)
  rintro e w2 ⟨v2, rfl, ho, hb⟩
  have HO2 := Aside0.mk ho
  have HW2 := Aside0.mk (below_step HW1.out hb)
  clear hb ho
  obtain ⟨r, hr⟩ : ∃ r, encR a0 l1 = r := ⟨_, rfl⟩
  have HO3 := HO2.out
  have HE3 := HE.out
  have HP3 := HP.out
  have hf0 : (encR a0 l1).2 = 0 := by have := hf2_; exact this
  rw [hr] at HO3 HE3 HP3 hf0 ⊢
  obtain ⟨r, f⟩ := r
  obtain rfl : f = 0 := hf0
  obtain ⟨A3, c3, rfl, hl3, hC3⟩ := Kd.R_reads HO3
  dsimp only [] at HE3 HP3 HO3 hl3 hC3 ⊢
  have HC3 := Aside0.mk hC3
  have HL3 := Aside0.mk hl3
  have HE4 := Aside0.mk HE3
  have HP4 := Aside0.mk HP3
  clear hr hf2_ HO2 HO3 HE HE3 HP HP3 hC3 hl3 H1
  go_wp2_with fail
  (with_reducible refine (batch_Decode_calls' A3 c3 r _ _ HC3.out HL3.out HE4.out.2 HE4.out.1 HP4.out).mono ?_)
  rintro e w3 ⟨v3, rfl, ho, hb⟩
  obtain ⟨A4, c4, rfl, hl4, hC4⟩ := Kd.R_reads ho
  have HC4 := Aside0.mk hC4
  have HL4 := Aside0.mk hl4
  have HW2 := Aside0.mk (below_step HW2.out hb)
  clear hb ho hC4 hl4
  go_wp2_with fail
  (with_reducible refine (morainelaw04_same.calls _ A4 c4 l1 A1 c1 l1 _ _ HC4.out HL4.out (Kd.C_below HR1.out HW2.out) HC1.out (same_self l1 HS.out)).mono ?_)
  rintro e w4 ⟨rfl, hd4⟩
  have HW2 := Aside0.mk (below_step HW2.out hd4.below)
  clear hd4
  go_wp2_with fail
  (with_reducible refine (batch_Decode_calls' A2 c2 l2 _ _ (Kd.C_below HR2.out HW2.out) HC2.out HB2.out HL2.out HD.out).mono ?_)
  rintro e w5 ⟨v5, rfl, ho, hb⟩
  have HW5 := Aside0.mk (below_step HW2.out hb)
  obtain ⟨A6, c6, rfl, hl6, hC6⟩ := Kd.R_reads ho
  clear hb ho hC6 hl6
  go_wp2
  go_ret
  exact ⟨by simp, HW5.out⟩
set_option maxHeartbeats 8000000 in
set_option maxRecDepth 100000 in
theorem BatchBack_ba (a0 : Int) (h0 : 0 ≤ a0) (h64 : a0 < 18446744073709551616) (A1 : Option Addr) (c1 : Nat) (l1 : List Op04) (A2 : Option Addr) (c2 : Nat) (l2 : List Int) (w : World) (hc1 : l1.length ≤ c1) (hr1 : Kd.C k65 w A1 l1.length l1) (hs : Sane l1) (hc2 : l2.length ≤ c2) (hr2 : Kd.C (Kd.int .u8) w A2 l2.length l2) (hb2 : Bytes l2) (hl2 : l2.length ≤ 1048576)
    (hf : (encR a0 l1).2 ≠ 0) (hd : (decB l2).2.2 = 0) :
    Calls Try.prog 7 #[.int .u64 a0, .slice A1 l1.length c1, .slice A2 l2.length c2] w fun e w' => e = .returned (.bool true) ∧ Below w.heap.size w w' := by
  have HR1 := Aside0.mk hr1
  have HC1 := Aside0.mk hc1
  have HR2 := Aside0.mk hr2
  have HC2 := Aside0.mk hc2
  have HB2 := Aside0.mk hb2
  have HL2 := Aside0.mk hl2
  have HS := Aside0.mk (show l1.length ≤ 1099511627776 from Nat.le_trans (And.left (show _ ∧ _ from hs)) (by decide))
  have H1 := Aside0.mk (encode_eq (11 + l1.length) a0 l1 h0 hs (Nat.le_refl _))
  have HF := Aside0.mk hf
  have HY := Aside0.mk (decB_at l2 hb2 hl2 hd).2
  have H3 := Aside0.mk (encode_eq (11 + (decB l2).2.1.length) (decB l2).1 (decB l2).2.1 (decB_seq l2 hb2) (decB_sane l2 hb2 hl2) (Nat.le_refl _))
  clear hr1 hc1 hr2 hc2 hb2 hl2 hs hf
  go_enter Try.func7, Try.ntmps7
  go_wp2_with fail
  (with_reducible refine (morainelaw04_works.calls 13 true _ (works_true 13 (Nat.le_refl _))).mono ?_)
  rintro e w1 ⟨rfl, hb⟩
  have HW1 := Aside0.mk hb
  clear hb
  go_wp2_with fail
  (with_reducible refine (batch_Encode.calls _ a0 A1 c1 l1 _ _ _ (Kd.C_below HR1.out HW1.out) HC1.out H1.out).mono ?_)
  rintro e w2 ⟨v2, rfl, ho, hb⟩
  have HO2 := Aside0.mk ho
  have HW2 := Aside0.mk (below_step HW1.out hb)
  clear hb ho
  obtain ⟨f, hf⟩ : ∃ f, (encR a0 l1).2 = f := ⟨_, rfl⟩
  have hf0 := HF.out
  rw [hf] at hf0 ⊢
  clear hf HO2 H1
  go_wp2_with fail
  (with_reducible refine (batch_Decode_calls' A2 c2 l2 _ _ (Kd.C_below HR2.out HW2.out) HC2.out HB2.out HL2.out rfl).mono ?_)
  rintro e w5 ⟨v5, rfl, ho, hb⟩
  have HW5 := Aside0.mk (below_step HW2.out hb)
  have H33 := H3.out
  have HY3 := HY.out
  generalize decB l2 = D at ho H33 HY3 hd ⊢
  obtain ⟨n, L, z⟩ := D
  dsimp only [] at ho H33 HY3 hd ⊢
  subst hd
  obtain ⟨A6, c6, rfl, hl6, hC6⟩ := Kd.R_reads ho
  have HC6 := Aside0.mk hC6
  have HL6 := Aside0.mk hl6
  rw [HY3] at H33
  have H3 := Aside0.mk H33
  clear hb ho hC6 hl6 HY3 HY H33
  go_wp2_with fail
  (with_reducible refine (batch_Encode.calls _ n A6 c6 L _ _ _ HC6.out HL6.out H3.out).mono ?_)
  rintro e w7 ⟨v7, rfl, ho, hb⟩
  have HW7 := Aside0.mk (below_step HW5.out hb)
  have hcv7 := own_string (P := Try.prog) Try.underlying33 Try.underlying5 Try.underlying9 (Kd.own_of_R ho)
  obtain ⟨B7, d7, rfl⟩ := Kd.R_slice ho
  have hcv2 := Kd.C_string (P := Try.prog) (A := A2) (c := c2) Try.underlying33 Try.underlying5 Try.underlying9 (Kd.C_below HR2.out HW7.out)
  clear hb ho
  generalize hn : l2.length = m at *
  go_wp2
  go_ret
  exact ⟨by simp, HW7.out⟩
set_option maxHeartbeats 8000000 in
set_option maxRecDepth 100000 in
theorem BatchBack_bb (a0 : Int) (h0 : 0 ≤ a0) (h64 : a0 < 18446744073709551616) (A1 : Option Addr) (c1 : Nat) (l1 : List Op04) (A2 : Option Addr) (c2 : Nat) (l2 : List Int) (w : World) (hc1 : l1.length ≤ c1) (hr1 : Kd.C k65 w A1 l1.length l1) (hs : Sane l1) (hc2 : l2.length ≤ c2) (hr2 : Kd.C (Kd.int .u8) w A2 l2.length l2) (hb2 : Bytes l2) (hl2 : l2.length ≤ 1048576)
    (hf : (encR a0 l1).2 ≠ 0) (hd : (decB l2).2.2 ≠ 0) :
    Calls Try.prog 7 #[.int .u64 a0, .slice A1 l1.length c1, .slice A2 l2.length c2] w fun e w' => e = .returned (.bool true) ∧ Below w.heap.size w w' := by
  have HR1 := Aside0.mk hr1
  have HC1 := Aside0.mk hc1
  have HR2 := Aside0.mk hr2
  have HC2 := Aside0.mk hc2
  have HB2 := Aside0.mk hb2
  have HL2 := Aside0.mk hl2
  have HS := Aside0.mk (show l1.length ≤ 1099511627776 from Nat.le_trans (And.left (show _ ∧ _ from hs)) (by decide))
  have H1 := Aside0.mk (encode_eq (11 + l1.length) a0 l1 h0 hs (Nat.le_refl _))
  have HF := Aside0.mk hf
  have HD := Aside0.mk (decB_bad l2 hd)
  clear hr1 hc1 hr2 hc2 hb2 hl2 hs hf
  go_enter Try.func7, Try.ntmps7
  go_wp2_with fail
  (with_reducible refine (morainelaw04_works.calls 13 true _ (works_true 13 (Nat.le_refl _))).mono ?_)
  rintro e w1 ⟨rfl, hb⟩
  have HW1 := Aside0.mk hb
  clear hb
  go_wp2_with fail
  (with_reducible refine (batch_Encode.calls _ a0 A1 c1 l1 _ _ _ (Kd.C_below HR1.out HW1.out) HC1.out H1.out).mono ?_)
  rintro e w2 ⟨v2, rfl, ho, hb⟩
  have HO2 := Aside0.mk ho
  have HW2 := Aside0.mk (below_step HW1.out hb)
  clear hb ho
  obtain ⟨f, hf⟩ : ∃ f, (encR a0 l1).2 = f := ⟨_, rfl⟩
  have hf0 := HF.out
  rw [hf] at hf0 ⊢
  clear hf HO2 H1
  go_wp2_with fail
  (with_reducible refine (batch_Decode_calls' A2 c2 l2 _ _ (Kd.C_below HR2.out HW2.out) HC2.out HB2.out HL2.out HD.out).mono ?_)
  rintro e w5 ⟨v5, rfl, ho, hb⟩
  have HW5 := Aside0.mk (below_step HW2.out hb)
  obtain ⟨A6, c6, rfl, hl6, hC6⟩ := Kd.R_reads ho
  clear hb ho hC6 hl6
  go_wp2
  go_ret
  exact ⟨by simp, HW5.out⟩
theorem BatchBack_upto (w : World) (a0 : Int) (hg0 : (Lit.int .u64 a0).wf = true) (A1 : Option Addr) (c1 : Nat) (l1 : List S65) (hc1 : l1.length ≤ c1) (hr1 : Kd.C k65 w A1 l1.length l1) (hg1 : ∀ x ∈ l1, (Lit.int .i64 x.f0).wf = true ∧ x.f1.size ≤ maxLen ∧ x.f2.size ≤ maxLen) (A2 : Option Addr) (c2 : Nat) (l2 : List Int) (hc2 : l2.length ≤ c2) (hr2 : Kd.C (Kd.int .u8) w A2 l2.length l2) (hg2 : ∀ x ∈ l2, (Lit.int .u8 x).wf = true)
    (hbulk : 1 + (sumBulk (fun x : S65 => 1 + (x.f1.size + 1) + (x.f2.size + 1) + 1) l1 + 1) + (sumBulk (fun _ : Int => 1) l2 + 1) ≤ 1048576) :
    Calls Try.prog 7 #[.int .u64 a0, .slice A1 l1.length c1, .slice A2 l2.length c2] w fun e w' => e = .returned (.bool true) ∧ Below w.heap.size w w' := by
  have hs := sane_of_bulk (l := l1) (by omega)
  have ha : 0 ≤ a0 ∧ a0 ≤ 18446744073709551615 := by simpa [Lit.wf, IntKind.min, IntKind.max, IntKind.signed, IntKind.bits] using hg0
  have hb := bytes_of_wf hg2
  have hlb := sumBulk_len (fun _ : Int => 1) (fun _ => Nat.le_refl _) l2
  by_cases hf : (encR a0 l1).2 = 0
  · by_cases hd : (decB l2).2.2 = 0
    · exact BatchBack_aa a0 ha.1 (by omega) A1 c1 l1 A2 c2 l2 w hc1 hr1 hs hc2 hr2 hb (by omega) hf hd
    · exact BatchBack_ab a0 ha.1 (by omega) A1 c1 l1 A2 c2 l2 w hc1 hr1 hs hc2 hr2 hb (by omega) hf hd
  · by_cases hd : (decB l2).2.2 = 0
    · exact BatchBack_ba a0 ha.1 (by omega) A1 c1 l1 A2 c2 l2 w hc1 hr1 hs hc2 hr2 hb (by omega) hf hd
    · exact BatchBack_bb a0 ha.1 (by omega) A1 c1 l1 A2 c2 l2 w hc1 hr1 hs hc2 hr2 hb (by omega) hf hd

end Go.Proofs.Ythkooncibfkepaa.G

/- Contracts typed by hand: no batch is the beginning of another one: plain; three batches joined: plain -/
namespace Go.Proofs.Ythkooncibfkepaa.G
open Go.RowKit Go.Proofs.YthkooncibfkepaaW.PrintWords Go.Proofs.YthkooncibfkepaaW.PrintLast Go.Proofs.YthkooncibfkepaaW.PrintMore
attribute [local go_sem] max2_int min2_int max_two min_two max_three min_three max_four min_four
set_option linter.unusedVariables false
set_option linter.unusedSimpArgs false

/-! no batch is the beginning of another one: plain; three batches joined: plain -/
theorem enc_pre (s : Int) (l : List Op04) (rest : List Int) (h0 : 0 ≤ s) (h1 : s < 18446744073709551616) (hn : l.length ≤ 4096) (hm : ∀ x ∈ l, mayB x = true) (hL : (encB s l ++ rest).length ≤ 1099511627776) :
    le (seg (encB s l ++ rest) 0 8) = s ∧ le (seg (encB s l ++ rest) 8 4) = (l.length : Int) ∧ opsOf04 (goneL (encB s l ++ rest)) = l ∧ lastEnd (goneL (encB s l ++ rest)) = ((encB s l).length : Int) := by
  have hs8 : seg (encB s l ++ rest) 0 8 = fixF 8 s := by
    have := seg_mid [] (fixF 8 s) (fixF 4 (l.length : Int) ++ encOps l ++ rest)
    rw [fixF_len] at this
    simpa [encB] using this
  have hs4 : seg (encB s l ++ rest) 8 4 = fixF 4 (l.length : Int) := by
    have := seg_mid (fixF 8 s) (fixF 4 (l.length : Int)) (encOps l ++ rest)
    rw [fixF_len, fixF_len] at this
    simpa [encB] using this
  have q8 : le (seg (encB s l ++ rest) 0 8) = s := by rw [hs8, le_fixF 8 s h0, show (256 : Int) ^ 8 = 18446744073709551616 by decide]; omega
  have q4 : le (seg (encB s l ++ rest) 8 4) = (l.length : Int) := by rw [hs4, le_fixF 4 _ (by omega), show (256 : Int) ^ 4 = 4294967296 by decide]; omega
  have hg := gos_put (encB s l ++ rest) s hL l 0 12 (fixF 8 s ++ fixF 4 (l.length : Int)) rest (by simp [encB]) (by rw [List.length_append, fixF_len, fixF_len]; rfl) hm
  have hlen := encB_len s l
  have hG : goneL (encB s l ++ rest) = gos (encB s l ++ rest) s l.length 0 12 := by
    unfold goneL
    rw [if_neg (by rw [List.length_append]; omega), q8, q4]
    rfl
  refine ⟨q8, q4, by rw [hG]; exact hg.1, ?_⟩
  rw [lastEnd_eq, hG, hg.2, hlen, encOps_len]
  push_cast
  rfl
theorem long_bad (s : Int) (l : List Op04) (rest : List Int) (h0 : 0 ≤ s) (h1 : s < 18446744073709551616) (h : (encR s l).2 = 0) (hL : (encB s l ++ rest).length ≤ 1099511627776) (hr : rest ≠ []) : decB (encB s l ++ rest) = (0, [], 41) := by
  obtain ⟨hc, hf, _⟩ := encR_ok h
  obtain ⟨_, hn, hm, ht⟩ := chk_ok hc
  obtain ⟨_, _, _, q⟩ := enc_pre s l rest h0 h1 hn hm hL
  have h3 : 0 < rest.length := List.length_pos_iff.2 hr
  have hlen := encB_len s l
  unfold decB
  rw [if_neg (by rw [List.length_append]; omega), if_neg]
  rintro ⟨_, _, e, _⟩
  rw [q, List.length_append] at e
  omega
theorem cut_bad (s : Int) (l : List Op04) (n : Nat) (h0 : 0 ≤ s) (h1 : s < 18446744073709551616) (h : (encR s l).2 = 0) (hn : n < (encB s l).length) : decB ((encB s l).take n) = (0, [], 41) := by
  obtain ⟨hc, hf, er⟩ := encR_ok h
  obtain ⟨_, hln, hm, ht⟩ := chk_ok hc
  have hsh := encR_short s l h
  rw [er] at hsh
  obtain ⟨hs1, hs2⟩ := hsh
  apply Classical.byContradiction
  intro hx
  have hz : (decB ((encB s l).take n)).2.2 = 0 := by
    apply Classical.byContradiction
    intro hy
    exact hx (decB_bad _ hy)
  have hb : Bytes ((encB s l).take n) := fun x hx => hs2 x (List.mem_of_mem_take hx)
  have hl : ((encB s l).take n).length ≤ 1048576 := by rw [List.length_take]; show min n (encB s l).length ≤ _; have : (encB s l).length ≤ 1048576 := hs1; omega
  obtain ⟨hm2, he⟩ := decB_at _ hb hl hz
  have hq0 := decB_seq _ hb
  have hq1 : (decB ((encB s l).take n)).1 < 18446744073709551616 := by
    have := (seg8_small ((encB s l).take n) hb).2
    unfold decB
    split
    · omega
    · split
      · exact this
      · omega
  generalize (decB ((encB s l).take n)).1 = s' at *
  generalize (decB ((encB s l).take n)).2.1 = l' at *
  obtain ⟨hc', _, er'⟩ := encR_ok (show (encR s' l').2 = 0 by rw [he])
  obtain ⟨_, hln', _, _⟩ := chk_ok hc'
  rw [er'] at he
  have e1 : encB s' l' = (encB s l).take n := congrArg Prod.fst he
  have e2 : encB s' l' ++ (encB s l).drop n = encB s l := by rw [e1, List.take_append_drop]
  have hs1' : (encB s l).length ≤ 1048576 := hs1
  obtain ⟨_, _, a3, _⟩ := enc_pre s' l' ((encB s l).drop n) hq0 hq1 hln' hm2 (by rw [e2]; omega)
  obtain ⟨_, _, b3, _⟩ := enc_pre s l [] h0 h1 hln hm (by rw [List.append_nil]; omega)
  rw [e2] at a3
  rw [List.append_nil] at b3
  have e3 : l' = l := a3.symm.trans b3
  subst e3
  have := congrArg List.length e1
  rw [List.length_take, encB_len, encB_len] at this
  rw [encB_len] at hn
  omega
theorem ren_cut (s s' : Int) (l : List Op04) (n : Nat) (h0 : 0 ≤ s) (h1 : s < 18446744073709551616) (h : (encR s l).2 = 0) (hn : n < (encB s l).length) : renR ((encB s l).take n) s' = ([], 41) := by
  unfold renR
  rw [cut_bad s l n h0 h1 h hn, if_neg (by decide)]
theorem join_cut (s : Int) (l : List Op04) (a : List Int) (n : Nat) (h0 : 0 ≤ s) (h1 : s < 18446744073709551616) (h : (encR s l).2 = 0) (hn : n < (encB s l).length) : joinR a ((encB s l).take n) = ([], 41) := by
  unfold joinR
  rw [cut_bad s l n h0 h1 h hn, if_neg (show ¬ ((0, [], 41) : Int × List Op04 × Int).2.2 = 0 by decide), ite_self]
theorem join_enc (s t : Int) (l m : List Op04) (h0 : 0 ≤ s) (h1 : s < 18446744073709551616) (h : (encR s l).2 = 0) (g0 : 0 ≤ t) (g1 : t < 18446744073709551616) (g : (encR t m).2 = 0) : joinR (encB s l) (encB t m) = encR s (l ++ m) := by
  unfold joinR
  rw [decB_put s l h0 h1 h, decB_put t m g0 g1 g, if_pos rfl, if_pos rfl]
/-- operations that may be, and numbers: all else is room -/
theorem encR_may {s : Int} {l : List Op04} (h : ∀ x ∈ l, mayB x = true) : (encR s l).2 = 0 ∨ (encR s l).2 = 3 ∨ (encR s l).2 = 42 := by
  unfold encR
  by_cases hc : (chk l).2 = 0
  · rw [if_pos hc]
    by_cases hf : fitB s l.length = true
    · rw [if_pos hf]; exact .inl rfl
    · rw [if_neg hf]; exact .inr (.inr rfl)
  · rw [if_neg hc]
    right; left
    unfold chk at hc ⊢
    by_cases h1 : (l.length : Int) > 4096
    · rw [if_pos h1]
    · rw [if_neg h1] at hc ⊢
      rw [badN_all l 0 h] at hc ⊢
      simp only [] at hc ⊢
      by_cases h2 : 12 + totN l > 1048576
      · rw [if_pos h2]
      · rw [if_neg h2] at hc; exact absurd rfl hc

end Go.Proofs.Ythkooncibfkepaa.G

/- Contracts typed by hand: batch.Renumber, batch.Join, by hand -/
namespace Go.Proofs.Ythkooncibfkepaa.G
open Go.RowKit Go.Proofs.YthkooncibfkepaaW.PrintWords Go.Proofs.YthkooncibfkepaaW.PrintLast Go.Proofs.YthkooncibfkepaaW.PrintMore
attribute [local go_sem] max2_int min2_int max_two min_two max_three min_three max_four min_four
set_option linter.unusedVariables false
set_option linter.unusedSimpArgs false

/-! batch.Renumber, batch.Join, by hand -/
theorem Encode_calls' (k : Nat) (a0 : Int) (A1 : Option Addr) (c1 : Nat) (l1 : List Op04) (m : Nat) (hm : l1.length = m) (r1 : List Int) (r2 : Int) (w : World) (hr1 : Kd.C k65 w A1 l1.length l1) (hc1 : l1.length ≤ c1) (h : batch_Encode.f k a0 l1 = some (r1, r2)) :
    Calls Try.prog 21 #[.int .u64 a0, .slice A1 m c1] w fun e w' => ∃ v0_ : Value, e = .returned (.tuple #[v0_, .int .i64 r2]) ∧ Kd.R (Kd.int .u8) 5 w' w.heap.size (fun _ => True) v0_ r1 ∧ Below w.heap.size w w' := by
  subst hm
  exact batch_Encode.calls k a0 A1 c1 l1 r1 r2 w hr1 hc1 h
set_option maxHeartbeats 8000000 in
set_option maxRecDepth 100000 in
theorem batch_Renumber_calls (A : Option Addr) (c : Nat) (b : List Int) (seq : Int) (w : World) (hr0 : Kd.C (Kd.int .u8) w A b.length b) (hc : b.length ≤ c) (hb : Bytes b) (hlen : b.length ≤ 1048576) (h0 : 0 ≤ seq) :
    Calls Try.prog 42 #[.slice A b.length c, .int .u64 seq] w fun e w' => ∃ v0_ : Value, e = .returned (.tuple #[v0_, .int .i64 (renR b seq).2]) ∧ Kd.R (Kd.int .u8) 5 w' w.heap.size (fun _ => True) v0_ (renR b seq).1 ∧ Below w.heap.size w w' := by
  have HR := Aside0.mk hr0
  have HC := Aside0.mk hc
  have HBY := Aside0.mk hb
  have HL := Aside0.mk hlen
  have HS := Aside0.mk (decB_sane b hb hlen)
  by_cases hd : (decB b).2.2 = 0
  · have er : renR b seq = encR seq (decB b).2.1 := by unfold renR; rw [if_pos hd]
    have H3 := Aside0.mk (encode_eq (11 + (decB b).2.1.length) seq (decB b).2.1 h0 HS.out (Nat.le_refl _))
    have H33 := H3.out
    obtain ⟨⟨r, f⟩, hr⟩ : ∃ r, encR seq (decB b).2.1 = r := ⟨_, rfl⟩
    obtain ⟨⟨n, L, z⟩, hD⟩ : ∃ D, decB b = D := ⟨_, rfl⟩
    rw [er, hr]
    rw [hr, hD] at H33
    rw [hD] at hd
    dsimp only [] at H33 hd
    subst hd
    have HD := Aside0.mk hD
    have H3 := Aside0.mk H33
    clear er hr0 hc hb hlen H33 hr hD
    dsimp only []
    go_enter Try.func42, Try.ntmps42
    go_wp2_with fail
    (with_reducible refine (batch_Decode_calls' A c b _ _ HR.out HC.out HBY.out HL.out HD.out).mono ?_)
    rintro e w1 ⟨v1, rfl, ho, hb⟩
    have HW1 := Aside0.mk hb
    obtain ⟨A6, c6, rfl, hl6, hC6⟩ := Kd.R_reads ho
    have HC6 := Aside0.mk hC6
    have HL6 := Aside0.mk hl6
    clear hb ho hC6 hl6 HS
    go_wp2_with fail
    (with_reducible refine (batch_Encode.calls _ seq A6 c6 L _ _ _ HC6.out HL6.out H3.out).mono ?_)
    rintro e w2 ⟨v2, rfl, ho, hb⟩
    have HO := Aside0.mk (Kd.R_lower ho HW1.out.size)
    have HW2 := Aside0.mk (below_step HW1.out hb)
    clear ho hb
    go_wp2
    go_ret2
    exact ⟨v2, rfl, HO.out, HW2.out⟩
  · have er : renR b seq = ([], 41) := by unfold renR; rw [if_neg hd]
    have HD := Aside0.mk (decB_bad b hd)
    rw [er]
    clear er hr0 hc hb hlen HS hd
    go_enter Try.func42, Try.ntmps42
    go_wp2_with fail
    (with_reducible refine (batch_Decode_calls' A c b _ _ HR.out HC.out HBY.out HL.out HD.out).mono ?_)
    rintro e w1 ⟨v1, rfl, ho, hb⟩
    have HW1 := Aside0.mk hb
    clear hb ho
    go_wp2
    go_ret2
    exact ⟨.slice none 0 0, rfl, Kd.R_nil _ _ _ _ _, HW1.out⟩
set_option maxHeartbeats 8000000 in
set_option maxRecDepth 100000 in
theorem batch_Join_good (A : Option Addr) (c : Nat) (a : List Int) (B : Option Addr) (d : Nat) (b : List Int) (n : Int) (L : List Op04) (m : Int) (M : List Op04) (r : List Int) (f : Int) (w : World) (hra : Kd.C (Kd.int .u8) w A a.length a) (hc : a.length ≤ c) (hba : Bytes a) (hla : a.length ≤ 1048576) (hrb : Kd.C (Kd.int .u8) w B b.length b) (hd : b.length ≤ d) (hbb : Bytes b) (hlb : b.length ≤ 1048576)
    (ha : decB a = (n, L, 0)) (hb : decB b = (m, M, 0)) (hL : L.length ≤ 1048576) (hM : M.length ≤ 1048576) (h : batch_Encode.f (11 + (L ++ M).length) n (L ++ M) = some (r, f)) :
    Calls Try.prog 44 #[.slice A a.length c, .slice B b.length d] w fun e w' => ∃ v0_ : Value, e = .returned (.tuple #[v0_, .int .i64 f]) ∧ Kd.R (Kd.int .u8) 5 w' w.heap.size (fun _ => True) v0_ r ∧ Below w.heap.size w w' := by
  have HRA := Aside0.mk hra
  have HCA := Aside0.mk hc
  have HBA := Aside0.mk hba
  have HLA := Aside0.mk hla
  have HRB := Aside0.mk hrb
  have HCB := Aside0.mk hd
  have HBB := Aside0.mk hbb
  have HLB := Aside0.mk hlb
  have HDA := Aside0.mk ha
  have HDB := Aside0.mk hb
  have HLL := Aside0.mk hL
  have HMM := Aside0.mk hM
  have H := Aside0.mk h
  clear hra hc hba hla hrb hd hbb hlb ha hb hL hM h
  go_enter Try.func44, Try.ntmps44
  go_wp2_with fail
  (with_reducible refine (batch_Decode_calls' A c a _ _ HRA.out HCA.out HBA.out HLA.out HDA.out).mono ?_)
  rintro e w1 ⟨v1, rfl, ho, hb⟩
  have HO1 := Aside0.mk ho
  have HW1 := Aside0.mk hb
  clear ho hb
  go_wp2_with fail
  (with_reducible refine (batch_Decode_calls' B d b _ _ (Kd.C_below HRB.out HW1.out) HCB.out HBB.out HLB.out HDB.out).mono ?_)
  rintro e w2 ⟨v2, rfl, ho, hb⟩
  have HO1 := Aside0.mk (Kd.R_below HO1.out hb)
  have HW2 := Aside0.mk (below_step HW1.out hb)
  obtain ⟨A1, c1, rfl, hl1, hC1⟩ := Kd.R_reads HO1.out
  obtain ⟨A2, c2, rfl, hl2, hC2⟩ := Kd.R_reads ho
  have HC2 := Aside0.mk hC2
  have HI := Aside0.mk info65
  clear ho hb hl1 hC1 hl2 hC2
  go_wp2_with (first | ((with_reducible refine gate_builtin (b := .append) (xs := #[.tmp 31, .tmp 32]) rfl ?_); at_builtin; refine Kd.R_append_rows k65 (w0 := w) w.heap.size rfl (.tmp 31) (.tmp 32) 22 65 (.agg #[(.int .i64 0), (.string ⟨#[]⟩), (.string ⟨#[]⟩)]) 40 rfl Try.underlying22 info65 rfl (by decide) (by omega) (.slice A1 L.length c1) L M _ _ _ (fun _ => True) (fun _ => False) rfl rfl ?aO ?aR (fun _ _ h => h) (fun _ h => h.elim) (fun _ _ => trivial) ?aB ?aS ?aL ?_; (case aR => exact HC2.out); (case aB => exact HW2.out); (case aO => exact HO1.out); (case aS => exact HW2.out.size); (case aL => have h1 := HLL.out; have h2 := HMM.out; simp; omega); intro v33 w3 ho hb hg hat; have HO3 := Aside0.mk ho; have HW3 := Aside0.mk hb; have HE3 := Kd.R_reads ho; obtain ⟨A3, c3, rfl, hl3, hC3⟩ := HE3; have HC3 := Aside0.mk hC3; have HL3 := Aside0.mk hl3; clear ho hb hg hat hl3 hC3))
  (with_reducible refine (Encode_calls' _ n A3 c3 (L ++ M) _ List.length_append _ _ _ HC3.out HL3.out H.out).mono ?_)
  rintro e w4 ⟨v4, rfl, ho, hb⟩
  have HO := Aside0.mk (Kd.R_lower ho HW3.out.size)
  have HW4 := Aside0.mk (below_step HW3.out hb)
  clear ho hb
  go_wp2
  go_ret2
  exact ⟨v4, rfl, HO.out, HW4.out⟩
set_option maxHeartbeats 8000000 in
set_option maxRecDepth 100000 in
theorem batch_Join_bad (A : Option Addr) (c : Nat) (a : List Int) (B : Option Addr) (d : Nat) (b : List Int) (n : Int) (L : List Op04) (y : Int) (m : Int) (M : List Op04) (z : Int) (w : World) (hra : Kd.C (Kd.int .u8) w A a.length a) (hc : a.length ≤ c) (hba : Bytes a) (hla : a.length ≤ 1048576) (hrb : Kd.C (Kd.int .u8) w B b.length b) (hd : b.length ≤ d) (hbb : Bytes b) (hlb : b.length ≤ 1048576)
    (ha : decB a = (n, L, y)) (hb : decB b = (m, M, z)) (h : y ≠ 0 ∨ z ≠ 0) :
    Calls Try.prog 44 #[.slice A a.length c, .slice B b.length d] w fun e w' => ∃ v0_ : Value, e = .returned (.tuple #[v0_, .int .i64 41]) ∧ Kd.R (Kd.int .u8) 5 w' w.heap.size (fun _ => True) v0_ [] ∧ Below w.heap.size w w' := by
  have HRA := Aside0.mk hra
  have HCA := Aside0.mk hc
  have HBA := Aside0.mk hba
  have HLA := Aside0.mk hla
  have HRB := Aside0.mk hrb
  have HCB := Aside0.mk hd
  have HBB := Aside0.mk hbb
  have HLB := Aside0.mk hlb
  have HDA := Aside0.mk ha
  have HDB := Aside0.mk hb
  have hyz := h
  clear hra hc hba hla hrb hd hbb hlb ha hb h
  by_cases hy : y = 0
  · have hz : z ≠ 0 := by rcases hyz with h | h; exact absurd hy h; exact h
    clear hyz
    go_enter Try.func44, Try.ntmps44
    go_wp2_with fail
    (with_reducible refine (batch_Decode_calls' A c a _ _ HRA.out HCA.out HBA.out HLA.out HDA.out).mono ?_)
    rintro e w1 ⟨v1, rfl, ho, hb⟩
    have HW1 := Aside0.mk hb
    clear ho hb
    go_wp2_with fail
    (with_reducible refine (batch_Decode_calls' B d b _ _ (Kd.C_below HRB.out HW1.out) HCB.out HBB.out HLB.out HDB.out).mono ?_)
    rintro e w2 ⟨v2, rfl, ho, hb⟩
    have HW2 := Aside0.mk (below_step HW1.out hb)
    clear ho hb
    go_wp2
    go_ret2
    exact ⟨.slice none 0 0, rfl, Kd.R_nil _ _ _ _ _, HW2.out⟩
  · clear hyz
    go_enter Try.func44, Try.ntmps44
    go_wp2_with fail
    (with_reducible refine (batch_Decode_calls' A c a _ _ HRA.out HCA.out HBA.out HLA.out HDA.out).mono ?_)
    rintro e w1 ⟨v1, rfl, ho, hb⟩
    have HW1 := Aside0.mk hb
    clear ho hb
    go_wp2_with fail
    (with_reducible refine (batch_Decode_calls' B d b _ _ (Kd.C_below HRB.out HW1.out) HCB.out HBB.out HLB.out HDB.out).mono ?_)
    rintro e w2 ⟨v2, rfl, ho, hb⟩
    have HW2 := Aside0.mk (below_step HW1.out hb)
    clear ho hb
    go_wp2
    go_ret2
    exact ⟨.slice none 0 0, rfl, Kd.R_nil _ _ _ _ _, HW2.out⟩
theorem batch_Join_calls (A : Option Addr) (c : Nat) (a : List Int) (B : Option Addr) (d : Nat) (b : List Int) (w : World) (hra : Kd.C (Kd.int .u8) w A a.length a) (hc : a.length ≤ c) (hba : Bytes a) (hrb : Kd.C (Kd.int .u8) w B b.length b) (hd : b.length ≤ d) (hbb : Bytes b) (hl : a.length + b.length ≤ 1048576) :
    Calls Try.prog 44 #[.slice A a.length c, .slice B b.length d] w fun e w' => ∃ v0_ : Value, e = .returned (.tuple #[v0_, .int .i64 (joinR a b).2]) ∧ Kd.R (Kd.int .u8) 5 w' w.heap.size (fun _ => True) v0_ (joinR a b).1 ∧ Below w.heap.size w w' := by
  have hsa := decB_len a hba (by omega)
  have hsb := decB_len b hbb (by omega)
  have hq := decB_seq a hba
  unfold joinR
  by_cases ha : (decB a).2.2 = 0
  · rw [if_pos ha]
    by_cases hb : (decB b).2.2 = 0
    · rw [if_pos hb]
      refine batch_Join_good A c a B d b (decB a).1 (decB a).2.1 (decB b).1 (decB b).2.1 _ _ w hra hc hba (by omega) hrb hd hbb (by omega) ?_ ?_ (by omega) (by omega) (encode_eq _ _ _ hq ⟨by rw [List.length_append]; omega, fun x hx => (List.mem_append.1 hx).elim (hsa.2 x) (hsb.2 x)⟩ (Nat.le_refl _))
      · rw [← ha]
      · rw [← hb]
    · rw [if_neg hb]
      exact batch_Join_bad A c a B d b _ _ _ _ _ _ w hra hc hba (by omega) hrb hd hbb (by omega) rfl rfl (.inr hb)
  · rw [if_neg ha]
    exact batch_Join_bad A c a B d b _ _ _ _ _ _ w hra hc hba (by omega) hrb hd hbb (by omega) rfl rfl (.inl ha)

end Go.Proofs.Ythkooncibfkepaa.G

/- Printed by the session's program over the kit's print, out of the translation: functions as plain Lean functions, and the proofs that the calls come to them. -/
namespace Go.Proofs.Ythkooncibfkepaa.G
open Go.RowKit Go.Proofs.YthkooncibfkepaaW.PrintWords Go.Proofs.YthkooncibfkepaaW.PrintLast Go.Proofs.YthkooncibfkepaaW.PrintMore
attribute [local go_sem] max2_int min2_int max_two min_two max_three min_three max_four min_four   -- for this text's walks alone
set_option linter.unusedVariables false
set_option linter.unusedSimpArgs false

/-! ### morainelaw04_among: function 46 -/
def morainelaw04_among.f (a0 : Int) (a1 : Int) : Option (Int) := if a1 = 0 then (none) else (some (Int.tmod (wrap64 ((Int.tmod a0 a1) + a1)) a1))
set_option maxHeartbeats 8000000 in
set_option maxRecDepth 100000 in
theorem morainelaw04_among.calls (a0 : Int) (a1 : Int) (r : Int) (w : World) (h : morainelaw04_among.f a0 a1 = some r) :
    Calls Try.prog 46 #[.int .i64 a0, .int .i64 a1] w fun e w' => e = .returned (.int .i64 r) ∧ Drawn0 w w' := by
  have H : (if a1 = 0 then (none) else (some (Int.tmod (wrap64 ((Int.tmod a0 a1) + a1)) a1))) = some r := h
  clear h
  by_cases c3 : a1 = 0
  · rw [if_pos c3] at H
    exact absurd H (by simp)
  · rw [if_neg c3] at H
    have c3b0 : (a1 == 0) = false := beq_eq_false_iff_ne.mpr c3
    have c3b1 : (a1 != 0) = true := bne_iff_ne.mpr c3
    obtain rfl := Option.some.inj H
    go_enter Try.func46, Try.ntmps46
    go_wp2
    go_ret
    exact ⟨by first | rfl | (simp; done) | (simp [*]; done), by repeat (first | exact Drawn0.refl _ | apply Drawn0.step)⟩

end Go.Proofs.Ythkooncibfkepaa.G

/- Contracts typed by hand: the law BatchWhole: no batch is the beginning of another one -/
namespace Go.Proofs.Ythkooncibfkepaa.G
open Go.RowKit Go.Proofs.YthkooncibfkepaaW.PrintWords Go.Proofs.YthkooncibfkepaaW.PrintLast Go.Proofs.YthkooncibfkepaaW.PrintMore
attribute [local go_sem] max2_int min2_int max_two min_two max_three min_three max_four min_four
set_option linter.unusedVariables false
set_option linter.unusedSimpArgs false

/-! the law BatchWhole: no batch is the beginning of another one -/
theorem among_eq (x : Int) (n : Nat) (hn : 1 ≤ n) (hn2 : n ≤ 4194304) : ∃ m : Nat, m < n ∧ morainelaw04_among.f x (n : Int) = some (m : Int) := by
  unfold morainelaw04_among.f
  rw [if_neg (by omega)]
  have h1 := Int.tmod_lt_of_pos x (show (0 : Int) < (n : Int) by omega)
  have h2 : -(n : Int) < Int.tmod x (n : Int) := by
    have := Int.lt_tmod_of_pos x (show (0 : Int) < (n : Int) by omega)
    omega
  have h3 : wrap64 (Int.tmod x (n : Int) + (n : Int)) = Int.tmod x (n : Int) + (n : Int) := by unfold wrap64; omega
  rw [h3]
  have h4 : 0 ≤ Int.tmod x (n : Int) + (n : Int) := by omega
  rw [Int.tmod_eq_emod_of_nonneg h4]
  have h5 := Int.emod_nonneg (Int.tmod x (n : Int) + (n : Int)) (show (n : Int) ≠ 0 by omega)
  have h6 := Int.emod_lt_of_pos (Int.tmod x (n : Int) + (n : Int)) (show (0 : Int) < (n : Int) by omega)
  exact ⟨((Int.tmod x (n : Int) + (n : Int)) % (n : Int)).toNat, by omega, by rw [Int.toNat_of_nonneg h5]⟩
theorem batch_Decode_callsW' (A : Option Addr) (c : Nat) (b : List Int) (r : Int × List Op04 × Int) (w : World) (hr0 : Kd.C (Kd.int .u8) w A b.length b) (hc : b.length ≤ c) (hb : Bytes b) (hlen : b.length ≤ 4194304) (hsn : Sane (opsOf04 (goneL b))) (h : decB b = r) :
    Calls Try.prog 33 #[.slice A b.length c] w fun e w' => ∃ v0_ : Value, e = .returned (.tuple #[.int .u64 r.1, v0_, .int .i64 r.2.2]) ∧ Kd.R k65 65 w' w.heap.size (fun _ => True) v0_ r.2.1 ∧ Below w.heap.size w w' := by
  subst h
  exact batch_Decode_callsW A c b w hr0 hc hb hlen hsn
theorem batch_Renumber_calls' (A : Option Addr) (c : Nat) (b : List Int) (seq : Int) (r : List Int × Int) (w : World) (hr0 : Kd.C (Kd.int .u8) w A b.length b) (hc : b.length ≤ c) (hb : Bytes b) (hlen : b.length ≤ 1048576) (h0 : 0 ≤ seq) (h : renR b seq = r) :
    Calls Try.prog 42 #[.slice A b.length c, .int .u64 seq] w fun e w' => ∃ v0_ : Value, e = .returned (.tuple #[v0_, .int .i64 r.2]) ∧ Kd.R (Kd.int .u8) 5 w' w.heap.size (fun _ => True) v0_ r.1 ∧ Below w.heap.size w w' := by
  subst h
  exact batch_Renumber_calls A c b seq w hr0 hc hb hlen h0
theorem batch_Join_calls2 (A : Option Addr) (c : Nat) (a : List Int) (B : Option Addr) (d : Nat) (b : List Int) (w : World) (hra : Kd.C (Kd.int .u8) w A a.length a) (hc : a.length ≤ c) (hba : Bytes a) (hla : a.length ≤ 1048576) (hrb : Kd.C (Kd.int .u8) w B b.length b) (hd : b.length ≤ d) (hbb : Bytes b) (hlb : b.length ≤ 1048576) (r : List Int × Int) (hr : joinR a b = r) :
    Calls Try.prog 44 #[.slice A a.length c, .slice B b.length d] w fun e w' => ∃ v0_ : Value, e = .returned (.tuple #[v0_, .int .i64 r.2]) ∧ Kd.R (Kd.int .u8) 5 w' w.heap.size (fun _ => True) v0_ r.1 ∧ Below w.heap.size w w' := by
  subst hr
  have hsa := decB_len a hba hla
  have hsb := decB_len b hbb hlb
  have hq := decB_seq a hba
  unfold joinR
  by_cases ha : (decB a).2.2 = 0
  · rw [if_pos ha]
    by_cases hb : (decB b).2.2 = 0
    · rw [if_pos hb]
      have hna : (decB a).2.1.length ≤ 4096 := by
        have h3 := (decB_at a hba hla ha).2
        exact (chk_ok (encR_ok (show (encR (decB a).1 (decB a).2.1).2 = 0 by rw [h3])).1).2.1
      have hnb : (decB b).2.1.length ≤ 4096 := by
        have h3 := (decB_at b hbb hlb hb).2
        exact (chk_ok (encR_ok (show (encR (decB b).1 (decB b).2.1).2 = 0 by rw [h3])).1).2.1
      refine batch_Join_good A c a B d b (decB a).1 (decB a).2.1 (decB b).1 (decB b).2.1 _ _ w hra hc hba hla hrb hd hbb hlb ?_ ?_ (by omega) (by omega) (encode_eq _ _ _ hq ⟨by rw [List.length_append]; omega, fun x hx => (List.mem_append.1 hx).elim (hsa.2 x) (hsb.2 x)⟩ (Nat.le_refl _))
      · rw [← ha]
      · rw [← hb]
    · rw [if_neg hb]
      exact batch_Join_bad A c a B d b _ _ _ _ _ _ w hra hc hba hla hrb hd hbb hlb rfl rfl (.inr hb)
  · rw [if_neg ha]
    exact batch_Join_bad A c a B d b _ _ _ _ _ _ w hra hc hba hla hrb hd hbb hlb rfl rfl (.inl ha)
set_option maxHeartbeats 8000000 in
set_option maxRecDepth 100000 in
theorem whole_bad (a0 : Int) (h0 : 0 ≤ a0) (A1 : Option Addr) (c1 : Nat) (l1 : List Op04) (hc1 : l1.length ≤ c1) (x : Int) (A2 : Option Addr) (m2 c2 : Nat) (w : World) (hr1 : Kd.C k65 w A1 l1.length l1) (hs : Sane l1) (f : Int) (hf : f ≠ 0) (he : encR a0 l1 = ([], f)) :
    Calls Try.prog 12 #[.int .u64 a0, .slice A1 l1.length c1, .agg #[.int .i64 x, .slice A2 m2 c2]] w fun e w' => e = .returned (.bool true) ∧ Below w.heap.size w w' := by
  have HR1 := Aside0.mk hr1
  have HC1 := Aside0.mk hc1
  have H1 := Aside0.mk (encode_eq (11 + l1.length) a0 l1 h0 hs (Nat.le_refl _))
  rw [he] at H1
  have HB0 := Aside0.mk (below_alloc (Below.refl w.heap.size w) (.cells #[.int .i64 x, .slice A2 m2 c2] 81))
  have b1 : (f == 0) = false := by simpa using hf
  clear hr1 hc1 hs hf he
  go_enter Try.func12, Try.ntmps12
  go_wp2_with fail
  (with_reducible refine (morainelaw04_works.calls 13 true _ (works_true 13 (Nat.le_refl _))).mono ?_)
  rintro e w1 ⟨rfl, hb⟩
  have HB1 := Aside0.mk (below_step HB0.out hb)
  clear hb
  go_wp2_with fail
  (with_reducible refine (batch_Encode.calls _ a0 A1 c1 l1 _ _ _ (Kd.C_below HR1.out HB1.out) HC1.out H1.out).mono ?_)
  rintro e w2 ⟨v2, rfl, ho, hb⟩
  have HB2 := Aside0.mk (below_step HB1.out hb)
  obtain ⟨A3, c3, rfl⟩ := Kd.R_slice ho
  clear hb ho
  go_wp2
  go_ret
  exact ⟨rfl, HB2.out⟩
set_option maxHeartbeats 16000000 in
set_option maxRecDepth 100000 in
theorem whole_good (a0 : Int) (h0 : 0 ≤ a0) (h64 : a0 < 18446744073709551616) (A1 : Option Addr) (c1 : Nat) (l1 : List Op04) (hc1 : l1.length ≤ c1) (x : Int) (A2 : Option Addr) (c2 : Nat) (more : List Int) (hc2 : more.length ≤ c2) (w : World) (hr1 : Kd.C k65 w A1 l1.length l1) (hs : Sane l1) (hr2 : Kd.C (Kd.int .u8) w A2 more.length more) (hbm : Bytes more) (hml : more.length ≤ 1048576) (E : List Int) (he : encR a0 l1 = (E, 0)) :
    Calls Try.prog 12 #[.int .u64 a0, .slice A1 l1.length c1, .agg #[.int .i64 x, .slice A2 more.length c2]] w fun e w' => e = .returned (.bool true) ∧ Below w.heap.size w w' := by
  have HR1 := Aside0.mk hr1
  have HC1 := Aside0.mk hc1
  have HR2 := Aside0.mk hr2
  have HC2 := Aside0.mk hc2
  have H0 := Aside0.mk h0
  have H1 := Aside0.mk (encode_eq (11 + l1.length) a0 l1 h0 hs (Nat.le_refl _))
  rw [he] at H1
  have hz : (encR a0 l1).2 = 0 := by rw [he]
  have heq : E = encB a0 l1 := by have := (encR_ok hz).2.2; rw [he] at this; exact congrArg Prod.fst this
  have hsh := encR_short a0 l1 hz
  rw [he] at hsh
  obtain ⟨hE1, hE2⟩ := hsh
  dsimp only at hE1 hE2
  have hE3 : 12 ≤ E.length := by rw [heq, encB_len]; omega
  have HEB := Aside0.mk hE2
  have HE1 := Aside0.mk hE1
  have HLB := Aside0.mk (show Bytes (E ++ more) from hE2.append hbm)
  have HLL := Aside0.mk (show (E ++ more).length ≤ 2097152 by rw [List.length_append]; omega)
  obtain ⟨m, hm, hm2⟩ := among_eq x E.length (by omega) (by omega)
  have HAM := Aside0.mk hm2
  have HCUT := Aside0.mk (show decB (E.take m) = (0, [], 41) by rw [heq]; exact cut_bad a0 l1 m h0 h64 hz (by rw [← heq]; exact hm))
  have HREN := Aside0.mk (show renR (E.take m) a0 = ([], 41) by rw [heq]; exact ren_cut a0 a0 l1 m h0 h64 hz (by rw [← heq]; exact hm))
  have HJOI := Aside0.mk (show joinR E (E.take m) = ([], 41) by rw [heq]; exact join_cut a0 l1 _ m h0 h64 hz (by rw [← heq]; exact hm))
  have hlong : ∃ (g : Int) (L : List Op04) (q : Int), decB (E ++ more) = (q, L, g) ∧ (g == 0) = (more.length == 0) ∧ Sane (opsOf04 (goneL (E ++ more))) := by
    obtain ⟨hck, _, _⟩ := encR_ok hz
    obtain ⟨_, hn, hmy, _⟩ := chk_ok hck
    obtain ⟨_, _, e3, _⟩ := enc_pre a0 l1 more h0 h64 hn hmy (by rw [← heq, List.length_append]; omega)
    rw [← heq] at e3
    by_cases h : more = []
    · exact ⟨0, l1, a0, by rw [h, List.append_nil, heq]; exact decB_put a0 l1 h0 h64 hz, by rw [h]; rfl, by rw [e3]; exact hs⟩
    · refine ⟨41, [], 0, by rw [heq]; exact long_bad a0 l1 more h0 h64 hz (by rw [← heq, List.length_append]; omega) h, ?_, by rw [e3]; exact hs⟩
      have h3 : 0 < more.length := List.length_pos_iff.2 h
      rw [Bool.eq_iff_iff]
      simp; omega
  obtain ⟨g, L, q, hl1, hl2, hl3⟩ := hlong
  have HLONG := Aside0.mk hl1
  have HSANE := Aside0.mk hl3
  have HTB := Aside0.mk (show Bytes (E.take m) from fun x hx => hE2 x (List.mem_of_mem_take hx))
  have htl : (E.take m).length = m := by rw [List.length_take]; omega
  have HTL := Aside0.mk htl
  have hinfo : (Try.prog.info? 5).map (fun i => (i.zero, i.size, i.bytes)) = some (some (.int .u8 0), 1, 1) := by kernel_rfl
  have HI := Aside0.mk hinfo
  have hb12 : decide ((E.length : Int) < 12) = false := decide_eq_false (by omega)
  have hb12' : decide (E.length < 12) = false := decide_eq_false (by omega)
  have HB0 := Aside0.mk (below_alloc (Below.refl w.heap.size w) (.cells #[.int .i64 x, .slice A2 more.length c2] 81))
  have HX := Aside0.mk (World.alloc_heap_new w (.cells #[.int .i64 x, .slice A2 more.length c2] 81))
  have hm1 : m ≤ E.length := by omega
  have hg1 : (g == 0) = (more.length == 0) := hl2
  have hg2 : (g == 0) = ((more.length : Int) == 0) := by rw [hl2, Bool.eq_iff_iff]; simp
  have HG2 := Aside0.mk hg2
  clear hr1 hc1 hr2 hc2 hs hbm he hz heq hE2 hm2 hl1 hl2 hl3 hinfo htl h0 h64 hml hg1 hg2
  go_enter Try.func12, Try.ntmps12
  go_wp2_with fail
  (with_reducible refine (morainelaw04_works.calls 13 true _ (works_true 13 (Nat.le_refl _))).mono ?_)
  rintro e w1 ⟨rfl, hb⟩
  have HX1 := Aside0.mk ((hb.block _ (blk_lt HX.out)).trans HX.out)
  have HB1 := Aside0.mk (below_step HB0.out hb)
  clear hb HX HB0
  go_wp2_with fail
  (with_reducible refine (batch_Encode.calls _ a0 A1 c1 l1 _ _ _ (Kd.C_below HR1.out HB1.out) HC1.out H1.out).mono ?_)
  rintro e w2 ⟨v2, rfl, ho, hb⟩
  have HX2 := Aside0.mk ((hb.block _ (blk_lt HX1.out)).trans HX1.out)
  have HB2 := Aside0.mk (below_step HB1.out hb)
  obtain ⟨A3, c3, rfl, hl3, hC3⟩ := Kd.R_reads ho
  have HC3 := Aside0.mk hC3
  have HL3 := Aside0.mk hl3
  have hx20 := blk_cell HX2.out 0
  clear hb ho hC3 hl3 HX1 HB1
  go_wp2_with fail
  (with_reducible refine (morainelaw04_among.calls x (E.length : Int) (m : Int) w2 HAM.out).mono ?_)
  rintro e w3 ⟨rfl, hd⟩
  have HX3 := Aside0.mk ((hd.below.block _ (blk_lt HX2.out)).trans HX2.out)
  have HB3 := Aside0.mk (below_step HB2.out hd.below)
  have HC3 := Aside0.mk (Kd.C_below HC3.out hd.below)
  have HCT := Aside0.mk (Kd.C_take HC3.out hm1)
  clear hd HX2 HB2 hx20
  obtain ⟨i0, hi0, _, hsz0, _⟩ := info_parts HI.out
  have hcut := cut_to (P := Try.prog) 33 5 .i64 Try.underlying33 hi0 A3 E.length c3 (m : Int) (by omega) (by omega) HL3.out
  rw [Int.toNat_natCast] at hcut
  clear hi0 hsz0
  go_wp2_with fail
  refine start_ (n := 7) (S := fun w' => w'.cell? ⟨w.heap.size, 1, none⟩ = some (.slice A2 more.length c2)) (ds := []) #[false, false, false, false, false, false, false] (by kernel_rfl) rfl rfl ((blk_cell HX3.out 1)) (fun hHeld => ?_)
  refine pure_ (i := 1) (N := some 45) (v := ?_) (a' := ?_) #[false, true, false, false, false, false, false] rfl rfl (by kernel_rfl) (fun _ _ _ h => h) (Or.inl ⟨by rfl, ?_⟩) ?_ ?_
  rotate_left
  · intro w'
    go_simp
    with_reducible rfl
  rotate_left
  · simp only [Act.put, List.setIfInBounds_toArray, List.set_cons_zero, List.set_cons_succ, i64_w, i32_w]
    rfl
  refine pure_ (i := 3) (N := some 47) (v := ?_) (a' := ?_) #[false, true, false, true, false, false, false] rfl rfl (by kernel_rfl) (fun _ _ _ h => h) (Or.inl ⟨by rfl, ?_⟩) ?_ ?_
  rotate_left
  · intro w'
    go_simp
    with_reducible rfl
  rotate_left
  · simp only [Act.put, List.setIfInBounds_toArray, List.set_cons_zero, List.set_cons_succ, i64_w, i32_w]
    rfl
  refine take_ (i := 4) (N := some 48) (v := ?_) (a' := ?_) #[false, true, false, true, true, false, false] rfl rfl (by kernel_rfl) (fun _ _ _ h => h) (Or.inl ⟨by rfl, ?_⟩) hHeld ?_ ?_
  rotate_left
  · intro w' s0
    go_simp
    with_reducible rfl
  rotate_left
  · simp only [Act.put, List.setIfInBounds_toArray, List.set_cons_zero, List.set_cons_succ, i64_w, i32_w]
    rfl
  refine one_ (i := 0) (N := some 44) #[true, true, false, true, true, false, false] rfl rfl (by kernel_rfl) (by decide) (fun K hK => ?_)
  refine Kd.R_lit_step (Kd.int .u8) (w0 := w3) w3.heap.size 5 ?hg (N := 44) ?hd (xs := ([] : List Int)) (inner := []) (ok := fun _ => True) (okp := fun _ => True) ?hr ?hp (fun _ hk => hk) trivial ?hB ?hS (by simp) ?_
  (case hd => rfl)
  (case hg => rfl)
  (case hr => first | (go_simp; done) | (go_simp; rfl))
  (case hp => exact (Reps.none _ _))
  (case hB => exact below_drew1 (Below.refl _ _))
  (case hS => exact Nat.le_refl _)
  intro v44 w4 ho hb hg hnew
  have HO4 := Aside0.mk ho
  have HB4 := Aside0.mk hb
  clear ho hb hg hnew
  refine hK.out _ _ ((blk_cell ((HB4.out.block _ (blk_lt HX3.out)).trans HX3.out) 1)) (fun hHeld => ?_)
  clear hK K
  refine norm_ (a' := ?_) ?_ ?_
  rotate_left
  · show Act.put _ (some 44) _ = _
    simp only [Act.put, List.setIfInBounds_toArray, List.set_cons_zero, List.set_cons_succ, i64_w, i32_w]
    rfl
  refine one_ (i := 2) (N := some 46) #[true, true, true, true, true, false, false] rfl rfl (by kernel_rfl) (by decide) (fun K hK => ?_)
  refine Kd.R_append_rows_step (Kd.int .u8) (w0 := w3) w3.heap.size (by rfl) (.tmp 44) (.tmp 45) 33 5 (.int .u8 0) 1 rfl Try.underlying33 HI.out rfl (by decide) (by omega) v44 [] E _ _ _ (fun _ => True) (fun _ => False) rfl rfl ?aO ?aR (fun _ _ h => h) (fun _ h => h.elim) (fun _ _ => trivial) ?aB ?aS ?aL ?_
  (case aR => exact Kd.C_below HC3.out HB4.out)
  (case aB => exact HB4.out)
  (case aO => exact HO4.out)
  (case aS => exact HB4.out.size)
  (case aL => have h1 := HLL.out; rw [List.length_append] at h1; simp; omega)
  intro v46 w5 ho hb hg hat
  have HO5 := Aside0.mk ho
  have HB5 := Aside0.mk hb
  clear ho hb hg hat
  refine hK.out _ _ ((blk_cell ((HB5.out.block _ (blk_lt HX3.out)).trans HX3.out) 1)) (fun hHeld => ?_)
  clear hK K
  refine norm_ (a' := ?_) ?_ ?_
  rotate_left
  · show Act.put _ (some 46) _ = _
    simp only [Act.put, List.setIfInBounds_toArray, List.set_cons_zero, List.set_cons_succ, i64_w, i32_w]
    rfl
  refine one_ (i := 5) (N := some 49) #[true, true, true, true, true, true, false] rfl rfl (by kernel_rfl) (by decide) (fun K hK => ?_)
  refine Kd.R_append_rows_step (Kd.int .u8) (w0 := w3) w3.heap.size (by rfl) (.tmp 46) (.tmp 48) 33 5 (.int .u8 0) 1 rfl Try.underlying33 HI.out rfl (by decide) (by omega) v46 ([] ++ E) more _ _ _ (fun _ => True) (fun _ => False) rfl rfl ?aO ?aR (fun _ _ h => h) (fun _ h => h.elim) (fun _ _ => trivial) ?aB ?aS ?aL ?_
  (case aR => exact Kd.C_below (Kd.C_below HR2.out HB3.out) HB5.out)
  (case aB => exact HB5.out)
  (case aO => exact HO5.out)
  (case aS => exact HB5.out.size)
  (case aL => have h1 := HLL.out; rw [List.length_append] at h1; simp; omega)
  intro v49 w6 ho hb hg hat
  have HO6 := Aside0.mk ho
  have HB6 := Aside0.mk hb
  clear ho hb hg hat
  refine hK.out _ _ ((blk_cell ((HB6.out.block _ (blk_lt HX3.out)).trans HX3.out) 1)) (fun hHeld => ?_)
  clear hK K
  refine norm_ (a' := ?_) ?_ ?_
  rotate_left
  · show Act.put _ (some 49) _ = _
    simp only [Act.put, List.setIfInBounds_toArray, List.set_cons_zero, List.set_cons_succ, i64_w, i32_w]
    rfl
  refine pure_ (i := 6) (N := some 10) (v := ?_) (a' := ?_) #[true, true, true, true, true, true, true] rfl rfl (by kernel_rfl) (fun _ _ _ h => h) (Or.inl ⟨by rfl, ?_⟩) ?_ ?_
  rotate_left
  · intro w'
    go_simp
    with_reducible rfl
  rotate_left
  · simp only [Act.put, List.setIfInBounds_toArray, List.set_cons_zero, List.set_cons_succ, i64_w, i32_w]
    rfl
  refine done_ (by kernel_rfl) ?_
  have ho6 := HO6.out
  rw [List.nil_append] at ho6
  obtain ⟨A6, c6, rfl, hl6, hC6⟩ := Kd.R_reads ho6
  have HC6 := Aside0.mk hC6
  have HL6 := Aside0.mk hl6
  have HC3 := Aside0.mk (Kd.C_below HC3.out HB6.out)
  have HCT := Aside0.mk (Kd.C_below HCT.out HB6.out)
  have HX6 := Aside0.mk ((HB6.out.block _ (blk_lt HX3.out)).trans HX3.out)
  have HBX := Aside0.mk (below_step HB3.out HB6.out)
  clear ho6 hl6 hC6 HO6 HO5 HO4 HB4 HB5 HX3
  have hmc : m ≤ c3 := Nat.le_trans hm1 HL3.out
  have HTC := Aside0.mk (show (E.take m).length ≤ c3 by rw [HTL.out]; exact hmc)
  have HT1 := Aside0.mk (show (E.take m).length ≤ 1048576 by rw [HTL.out]; have := HE1.out; omega)
  have HDEC := Aside0.mk (fun W (hW : Below w6.heap.size w6 W) => batch_Decode_calls' A3 c3 (E.take m) _ W (Kd.C_below HCT.out hW) HTC.out HTB.out HT1.out HCUT.out)
  have HREW := Aside0.mk (fun W (hW : Below w6.heap.size w6 W) => batch_Renumber_calls' A3 c3 (E.take m) a0 _ W (Kd.C_below HCT.out hW) HTC.out HTB.out HT1.out H0.out HREN.out)
  have HJOW := Aside0.mk (fun W (hW : Below w6.heap.size w6 W) => batch_Join_calls2 A3 c3 E A3 c3 (E.take m) W (Kd.C_below HC3.out hW) HL3.out HEB.out HE1.out (Kd.C_below HCT.out hW) HTC.out HTB.out HT1.out _ HJOI.out)
  have HLDW := Aside0.mk (fun W (hW : Below w6.heap.size w6 W) => batch_Decode_callsW' A6 c6 (E ++ more) _ W (Kd.C_below HC6.out hW) HL6.out HLB.out (by have := HLL.out; omega) HSANE.out HLONG.out)
  rw [HTL.out] at HDEC HREW HJOW
  rw [List.length_append] at HLDW
  have HB6 := Aside0.mk (Below.refl w6.heap.size w6)
  go_wp2_with fail
  (with_reducible refine (HDEC.out _ HB6.out).mono ?_)
  rintro e w7 ⟨v7, rfl, ho, hb⟩
  have HB7 := Aside0.mk hb
  clear ho hb
  go_wp2_with fail
  (with_reducible refine (HLDW.out _ HB7.out).mono ?_)
  rintro e w8 ⟨v8, rfl, ho, hb⟩
  have HB8 := Aside0.mk (below_step HB7.out hb)
  clear ho hb
  go_wp2_with fail
  (with_reducible refine (HREW.out _ HB8.out).mono ?_)
  rintro e w9 ⟨v9, rfl, ho, hb⟩
  have HB9 := Aside0.mk (below_step HB8.out hb)
  clear ho hb
  go_wp2_with fail
  (with_reducible refine (HJOW.out _ HB9.out).mono ?_)
  rintro e w10 ⟨v10, rfl, ho, hb⟩
  have HBA := Aside0.mk (below_step HB9.out hb)
  have hx1 := blk_cell ((HBA.out.block _ (blk_lt HX6.out)).trans HX6.out) 1
  have HZ := Aside0.mk (below_step HBX.out HBA.out)
  have HG := HG2
  obtain ⟨ml, hml⟩ : ∃ ml, more.length = ml := ⟨_, rfl⟩
  rw [hml] at HG hx1 ⊢
  clear ho hb hml
  go_wp2
  all_goals first
    | exact absurd HG.out (by assumption)
    | (go_ret; exact ⟨rfl, HZ.out⟩)
theorem encR_bad {s : Int} {l : List Op04} (h : (encR s l).2 ≠ 0) : encR s l = ([], (encR s l).2) := by
  unfold encR at h ⊢
  by_cases hc : (chk l).2 = 0
  · rw [if_pos hc] at h ⊢
    by_cases hf : fitB s l.length = true
    · rw [if_pos hf] at h; exact absurd rfl h
    · rw [if_neg hf]
  · rw [if_neg hc]
theorem BatchWhole_upto (w : World) (a0 : Int) (hg0 : (Lit.int .u64 a0).wf = true) (A1 : Option Addr) (c1 : Nat) (l1 : List S65) (hc1 : l1.length ≤ c1) (hr1 : Kd.C k65 w A1 l1.length l1) (hg1 : ∀ x ∈ l1, (Lit.int .i64 x.f0).wf = true ∧ x.f1.size ≤ maxLen ∧ x.f2.size ≤ maxLen)
    (cs2 : Array Value) (x2 : Int × List Int) (hK2 : (Kd.pair (Kd.int .i64) (Kd.slice 5 (Kd.int .u8))).K w x2 cs2.toList) (hg2 : (Lit.int .i64 x2.1).wf = true ∧ ∀ x ∈ x2.2, (Lit.int .u8 x).wf = true)
    (hbulk : 1 + (sumBulk (fun x : S65 => 1 + (x.f1.size + 1) + (x.f2.size + 1) + 1) l1 + 1) + (1 + (sumBulk (fun _ : Int => 1) x2.2 + 1) + 1) ≤ 1048576) :
    Calls Try.prog 12 #[.int .u64 a0, .slice A1 l1.length c1, .agg cs2] w fun e w' => e = .returned (.bool true) ∧ Below w.heap.size w w' := by
  obtain ⟨ca, cb, hcs, ha, A2, c2, hl, hc2, hC2⟩ := hK2
  have e1 : ca = [.int .i64 x2.1] := ha
  have e3 : cs2 = #[.int .i64 x2.1, .slice A2 x2.2.length c2] := by
    apply Array.toList_inj.1
    rw [hcs, e1, hl]
    rfl
  subst e3
  obtain ⟨x, more⟩ := x2
  dsimp only at hbulk hC2 hc2 hg2 ⊢
  have hs := sane_of_bulk (l := l1) (by omega)
  have h0 : 0 ≤ a0 ∧ a0 ≤ 18446744073709551615 := by simpa [Lit.wf, IntKind.min, IntKind.max, IntKind.signed, IntKind.bits] using hg0
  have hb := bytes_of_wf hg2.2
  have hlb := sumBulk_len (fun _ : Int => 1) (fun _ => Nat.le_refl _) more
  by_cases hf : (encR a0 l1).2 = 0
  · exact whole_good a0 h0.1 (by omega) A1 c1 l1 hc1 x A2 c2 more hc2 w hr1 hs hC2 hb (by omega) (encR a0 l1).1 (by rw [← hf])
  · exact whole_bad a0 h0.1 A1 c1 l1 hc1 x A2 more.length c2 w hr1 hs _ hf (encR_bad hf)

end Go.Proofs.Ythkooncibfkepaa.G
