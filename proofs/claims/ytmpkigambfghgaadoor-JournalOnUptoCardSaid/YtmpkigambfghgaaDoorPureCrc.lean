/- Contracts typed by hand: the sum in plain Lean: registers as numbers, bit by bit, and what a matrix of them does -/
import Derived.Test.YtmpkigambfghgaaDoorProg
import Derived.Below
import Derived.Deep.Draws
import Derived.Deep.AppendLies
import Derived.Maps.AppendAt
import Derived.OwnWalk
import Derived.Laws.BytesArg
import Derived.Laws.MakeOwn
import Derived.Laws.OwnMore
import Derived.Deep.OwnRows
import Derived.Tactics
import Derived.Lib.ConvBytes
import Derived.Laws.Slices
import Derived.WalkKit
import Derived.KernelRfl
import Derived.RowKit3
import Derived.Deep.LoopGhost
import Derived.Deep.QuietTactic
import Derived.BigQuiet
import Derived.WideLaws
import Derived.Deep.DeepCutAuto
import Derived.Deep.CutBlock
import Derived.Deep.RegionHeld3
import Derived.Laws.Rows
import Derived.Lib.AppendStr
import Derived.ArgAppend
import Derived.Laws.IdiomCopy
import Derived.OrdersHeld
import Derived.Laws.BitsLemmas
import Derived.RowKit
import Derived.Test.YtmpkigambfghgaaDoorWWords
import Derived.Test.YtmpkigambfghgaaDoorWLast
import Derived.Test.YtmpkigambfghgaaDoorWTab
import Derived.Test.YtmpkigambfghgaaDoorWFour
import Derived.Test.YtmpkigambfghgaaDoorWQPut
import Derived.Test.YtmpkigambfghgaaDoorWApart
import Derived.Test.YtmpkigambfghgaaDoorWArr
import Derived.Test.YtmpkigambfghgaaDoorWZeros
import Derived.Test.YtmpkigambfghgaaDoorWFoot
import Derived.Test.YtmpkigambfghgaaDoorWKept
import Derived.Test.YtmpkigambfghgaaDoorWShare
import Derived.Test.YtmpkigambfghgaaDoorWN
import Derived.Test.YtmpkigambfghgaaDoorWFootNe
import Derived.Test.YtmpkigambfghgaaDoorWAt
import Derived.Test.YtmpkigambfghgaaDoorWEqStruct
import Derived.Test.YtmpkigambfghgaaDoorWRepsOne
import Derived.Test.YtmpkigambfghgaaDoorWInv
import Derived.Test.YtmpkigambfghgaaDoorWInvWords
import Derived.Test.YtmpkigambfghgaaDoorWGuard
import Derived.Test.YtmpkigambfghgaaDoorWNEv
import Derived.Test.YtmpkigambfghgaaDoorWMore
namespace Go.Proofs.YtmpkigambfghgaaDoor.G
open Go.RowKit Go.Proofs.YtmpkigambfghgaaDoorW.PrintWords Go.Proofs.YtmpkigambfghgaaDoorW.PrintLast Go.Proofs.YtmpkigambfghgaaDoorW.PrintMore
attribute [local go_sem] max2_int min2_int max_two min_two max_three min_three max_four min_four
set_option linter.unusedVariables false
set_option linter.unusedSimpArgs false

/-! the sum in plain Lean: registers as numbers, bit by bit, and what a matrix of them does -/
def crcP : Nat := 2197175160
def crc1 (r : Nat) : Nat := r / 2 ^^^ (if r % 2 = 1 then crcP else 0)
def crcN : Nat → Nat → Nat
  | 0, r => r
  | n + 1, r => crcN n (crc1 r)
def crcB (r : Nat) (l : List Nat) : Nat := l.foldl (fun r b => crcN 8 (r ^^^ b)) r
theorem crcB_nil (r : Nat) : crcB r [] = r := rfl
theorem crcB_cons (r b : Nat) (l : List Nat) : crcB r (b :: l) = crcB (crcN 8 (r ^^^ b)) l := rfl
theorem crcB_append (r : Nat) (a b : List Nat) : crcB r (a ++ b) = crcB (crcB r a) b := by unfold crcB; rw [List.foldl_append]
theorem xor_self_mid (a b c : Nat) : (a ^^^ b) ^^^ (c ^^^ b) = a ^^^ c := by
  rw [Nat.xor_comm c b, Nat.xor_assoc, ← Nat.xor_assoc b b c, Nat.xor_self, Nat.zero_xor]
theorem xor_cancel (a b : Nat) : (a ^^^ b) ^^^ b = a := by rw [Nat.xor_assoc, Nat.xor_self, Nat.xor_zero]
theorem xor_mid (a b c d : Nat) : (a ^^^ b) ^^^ (c ^^^ d) = (a ^^^ c) ^^^ (b ^^^ d) := by
  rw [Nat.xor_assoc, Nat.xor_assoc, ← Nat.xor_assoc b c d, Nat.xor_comm b c, Nat.xor_assoc c b d]
theorem xor_odd (a b : Nat) : (a ^^^ b) % 2 = (a % 2 + b % 2) % 2 := by
  have h := Nat.xor_mod_two_pow (a := a) (b := b) (n := 1)
  rw [Nat.pow_one] at h
  rw [h]
  rcases Nat.mod_two_eq_zero_or_one a with ha | ha <;> rcases Nat.mod_two_eq_zero_or_one b with hb | hb <;> rw [ha, hb] <;> rfl
theorem xor_half (a b : Nat) : (a ^^^ b) / 2 = a / 2 ^^^ b / 2 := by
  have h := Nat.shiftRight_xor_distrib (a := a) (b := b) (i := 1)
  simpa [Nat.shiftRight_succ] using h
theorem crc1_xor (a b : Nat) : crc1 (a ^^^ b) = crc1 a ^^^ crc1 b := by
  unfold crc1
  rw [xor_half, xor_odd, xor_mid]
  congr 1
  rcases Nat.mod_two_eq_zero_or_one a with ha | ha <;> rcases Nat.mod_two_eq_zero_or_one b with hb | hb <;> rw [ha, hb] <;> simp
theorem crcN_xor : ∀ n a b, crcN n (a ^^^ b) = crcN n a ^^^ crcN n b
  | 0, _, _ => rfl
  | n + 1, a, b => by simp only [crcN]; rw [crc1_xor, crcN_xor n]
theorem crcN_zero : ∀ n, crcN n 0 = 0
  | 0 => rfl
  | n + 1 => by simp only [crcN]; rw [show crc1 0 = 0 by rfl, crcN_zero n]
theorem crcN_add : ∀ m n r, crcN (m + n) r = crcN n (crcN m r)
  | 0, n, r => by rw [Nat.zero_add]; rfl
  | m + 1, n, r => by rw [show m + 1 + n = (m + n) + 1 by omega]; simp only [crcN]; exact crcN_add m n _
theorem crc1_double (x : Nat) : crc1 (2 * x) = x := by
  unfold crc1
  rw [if_neg (by omega)]
  simp
theorem crcN_pow : ∀ m x, crcN m (2 ^ m * x) = x
  | 0, x => by simp [crcN]
  | m + 1, x => by simp only [crcN]; rw [Nat.pow_succ, show 2 ^ m * 2 * x = 2 * (2 ^ m * x) by rw [Nat.mul_comm (2 ^ m) 2, Nat.mul_assoc], crc1_double, crcN_pow m x]
theorem crc1_lt {r : Nat} (h : r < 4294967296) : crc1 r < 4294967296 := by
  unfold crc1
  refine Nat.xor_lt_two_pow (n := 32) (by omega) ?_
  split
  · unfold crcP; omega
  · omega
theorem crcN_lt : ∀ n {r : Nat}, r < 4294967296 → crcN n r < 4294967296
  | 0, _, h => h
  | n + 1, _, h => by simp only [crcN]; exact crcN_lt n (crc1_lt h)
theorem xor_lt {a b : Nat} (ha : a < 4294967296) (hb : b < 4294967296) : a ^^^ b < 4294967296 := Nat.xor_lt_two_pow (n := 32) ha hb
theorem crcB_lt : ∀ (l : List Nat) (r : Nat), r < 4294967296 → (∀ b ∈ l, b < 256) → crcB r l < 4294967296
  | [], _, h, _ => h
  | b :: l, r, h, hb => by
    rw [crcB_cons]
    exact crcB_lt l _ (crcN_lt 8 (xor_lt h (by have := hb b List.mem_cons_self; omega))) (fun c hc => hb c (List.mem_cons_of_mem _ hc))
/-- low part and high part, exclusive-ored, are the number -/
theorem xor_split (m r : Nat) : 2 ^ m * (r / 2 ^ m) ^^^ r % 2 ^ m = r := by
  apply Nat.eq_of_testBit_eq
  intro i
  rw [Nat.testBit_xor, Nat.testBit_two_pow_mul, Nat.testBit_mod_two_pow, Nat.testBit_div_two_pow]
  by_cases h : i < m
  · rw [decide_eq_false (show ¬ m ≤ i by omega), decide_eq_true h]
    simp
  · rw [decide_eq_true (show m ≤ i by omega), decide_eq_false h, show i - m + m = i by omega]
    simp
theorem crcN_split (m r : Nat) : crcN m r = r / 2 ^ m ^^^ crcN m (r % 2 ^ m) := by
  conv => lhs; rw [← xor_split m r]
  rw [crcN_xor, crcN_pow]
theorem crcB_xor : ∀ (a b : List Nat) (r s : Nat), a.length = b.length → crcB (r ^^^ s) (List.zipWith (· ^^^ ·) a b) = crcB r a ^^^ crcB s b
  | [], [], _, _, _ => rfl
  | x :: a, y :: b, r, s, h => by
    rw [List.zipWith_cons_cons, crcB_cons, crcB_cons, crcB_cons]
    rw [show (r ^^^ s) ^^^ (x ^^^ y) = (r ^^^ x) ^^^ (s ^^^ y) from xor_mid r s x y, crcN_xor]
    exact crcB_xor a b _ _ (by simpa using h)
theorem crcB_zeros : ∀ (n r : Nat), crcB r (List.replicate n 0) = crcN (8 * n) r
  | 0, _ => rfl
  | n + 1, r => by rw [List.replicate_succ, crcB_cons, Nat.xor_zero, crcB_zeros n, show 8 * (n + 1) = 8 + 8 * n by omega, crcN_add]
theorem crcB_split (l : List Nat) (r : Nat) : crcB r l = crcN (8 * l.length) r ^^^ crcB 0 l := by
  have h := crcB_xor (List.replicate l.length 0) l r 0 (by simp)
  rw [Nat.xor_zero, crcB_zeros] at h
  rw [← h]
  congr 1
  apply List.ext_getElem
  · simp
  · intro i h1 h2
    simp
/-- back by one bit -/
def crcU (r : Nat) : Nat := if r / 2147483648 = 1 then (r ^^^ crcP) * 2 % 4294967296 + 1 else r * 2 % 4294967296
theorem top_bit {r : Nat} (h : r < 4294967296) : r / 2147483648 = 1 ↔ r.testBit 31 = true := by
  rw [Nat.testBit_eq_decide_div_mod_eq, decide_eq_true_eq]
  omega
theorem crcP_top : crcP.testBit 31 = true := by decide
theorem xor_top {r : Nat} (h : r < 4294967296) (ht : r / 2147483648 = 1) : r ^^^ crcP < 2147483648 := by
  have hx : r ^^^ crcP < 4294967296 := xor_lt h (by unfold crcP; omega)
  have hb : (r ^^^ crcP).testBit 31 = false := by rw [Nat.testBit_xor, (top_bit h).1 ht, crcP_top]; rfl
  have := top_bit hx
  rw [hb] at this
  have : ¬ (r ^^^ crcP) / 2147483648 = 1 := fun e => Bool.false_ne_true (this.1 e)
  omega
theorem crc1_crcU {r : Nat} (h : r < 4294967296) : crc1 (crcU r) = r := by
  unfold crcU
  by_cases ht : r / 2147483648 = 1
  · rw [if_pos ht]
    have := xor_top h ht
    rw [Nat.mod_eq_of_lt (by omega)]
    unfold crc1
    rw [if_pos (by omega), show ((r ^^^ crcP) * 2 + 1) / 2 = r ^^^ crcP by omega, xor_cancel]
  · rw [if_neg ht, Nat.mod_eq_of_lt (by omega), Nat.mul_comm, crc1_double]
theorem crcU_crc1 {r : Nat} (h : r < 4294967296) : crcU (crc1 r) = r := by
  unfold crc1
  by_cases ho : r % 2 = 1
  · rw [if_pos ho]
    have hp : r / 2 ^^^ crcP < 4294967296 := xor_lt (by omega) (by unfold crcP; omega)
    have hb : (r / 2 ^^^ crcP) / 2147483648 = 1 := by
      rw [top_bit hp, Nat.testBit_xor, crcP_top, Nat.testBit_lt_two_pow (show r / 2 < 2 ^ 31 by omega)]
      rfl
    unfold crcU
    rw [if_pos hb, xor_cancel]
    omega
  · rw [if_neg ho, Nat.xor_zero]
    unfold crcU
    rw [if_neg (by omega)]
    omega
theorem crcU_lt {r : Nat} (h : r < 4294967296) : crcU r < 4294967296 := by
  unfold crcU
  split
  · have := xor_top h (by assumption)
    omega
  · omega
def crcUN : Nat → Nat → Nat
  | 0, r => r
  | n + 1, r => crcUN n (crcU r)
theorem crcUN_lt : ∀ n {r : Nat}, r < 4294967296 → crcUN n r < 4294967296
  | 0, _, h => h
  | n + 1, _, h => by simp only [crcUN]; exact crcUN_lt n (crcU_lt h)
theorem crcN_crcUN : ∀ n {r : Nat}, r < 4294967296 → crcN n (crcUN n r) = r
  | 0, _, _ => rfl
  | n + 1, r, h => by
    simp only [crcUN]
    rw [show n + 1 = n + 1 from rfl, crcN_add n 1, crcN_crcUN n (crcU_lt h)]
    exact crc1_crcU h
theorem crc1_inj {a b : Nat} (ha : a < 4294967296) (hb : b < 4294967296) (h : crc1 a = crc1 b) : a = b := by
  rw [← crcU_crc1 ha, ← crcU_crc1 hb, h]
theorem crcN_inj : ∀ n {a b : Nat}, a < 4294967296 → b < 4294967296 → crcN n a = crcN n b → a = b
  | 0, _, _, _, _, h => h
  | n + 1, _, _, ha, hb, h => crc1_inj ha hb (crcN_inj n (crc1_lt ha) (crc1_lt hb) h)
/-- four bytes, the lowest first, taken at once -/
theorem crcB_four (r a b c d : Nat) (ha : a < 256) (hb : b < 256) (hc : c < 256) (hd : d < 256) : crcB r [a, b, c, d] = crcN 32 (r ^^^ (a + 256 * b + 65536 * c + 16777216 * d)) := by
  have key : ∀ (m r x y : Nat), x < 256 → crcN (8 + m) (r ^^^ (x + 256 * y)) = crcN m (crcN 8 (r ^^^ x) ^^^ y) := by
    intro m r x y hx
    have e := xor_split 8 (x + 256 * y)
    rw [show (2 : Nat) ^ 8 = 256 by rfl, show (x + 256 * y) / 256 = y by omega, show (x + 256 * y) % 256 = x by omega] at e
    have e2 := crcN_pow 8 y
    rw [show (2 : Nat) ^ 8 = 256 by rfl] at e2
    rw [crcN_add, ← e, Nat.xor_comm (256 * y) x, ← Nat.xor_assoc, crcN_xor 8 _ (256 * y), e2]
  rw [crcB_cons, crcB_cons, crcB_cons, crcB_cons, crcB_nil]
  rw [show (32 : Nat) = 8 + 24 by rfl, show a + 256 * b + 65536 * c + 16777216 * d = a + 256 * (b + 256 * (c + 256 * d)) by omega, key 24 r a _ ha, show (24 : Nat) = 8 + 16 by rfl, key 16 _ b _ hb, show (16 : Nat) = 8 + 8 by rfl, key 8 _ c _ hc]
/-! a list of 32 numbers as a map of registers -/
def mapTo (t : List Nat) : Nat → Nat → Nat
  | 0, _ => 0
  | i + 1, r => mapTo t i r ^^^ (if r.testBit i = true then t.getD i 0 else 0)
def Lin (t : List Nat) (m : Nat) : Prop := t.length = 32 ∧ ∀ i, i < 32 → t.getD i 0 = crcN m (2 ^ i)
theorem mod_succ_bit (r i : Nat) : r % 2 ^ (i + 1) = (r % 2 ^ i) ^^^ (if r.testBit i = true then 2 ^ i else 0) := by
  apply Nat.eq_of_testBit_eq
  intro j
  rw [Nat.testBit_xor, Nat.testBit_mod_two_pow, Nat.testBit_mod_two_pow]
  rcases Nat.lt_trichotomy j i with h | h | h
  · rw [decide_eq_true (show j < i + 1 by omega), decide_eq_true h]
    split
    · rw [Nat.testBit_two_pow, decide_eq_false (show ¬ i = j by omega)]; simp
    · simp
  · subst h
    rw [decide_eq_true (show j < j + 1 by omega), decide_eq_false (show ¬ j < j by omega)]
    split
    · rename_i hb
      rw [hb, Nat.testBit_two_pow, decide_eq_true rfl]; rfl
    · rename_i hb
      simp only [Bool.not_eq_true] at hb
      rw [hb]; simp
  · rw [decide_eq_false (show ¬ j < i + 1 by omega), decide_eq_false (show ¬ j < i by omega)]
    split
    · rw [Nat.testBit_two_pow, decide_eq_false (show ¬ i = j by omega)]; rfl
    · simp
theorem mapTo_lin {t : List Nat} {m : Nat} (h : Lin t m) (r : Nat) : ∀ i, i ≤ 32 → mapTo t i r = crcN m (r % 2 ^ i)
  | 0, _ => by rw [Nat.pow_zero, Nat.mod_one, crcN_zero]; rfl
  | i + 1, hi => by
    rw [mod_succ_bit, crcN_xor, ← mapTo_lin h r i (by omega)]
    simp only [mapTo]
    congr 1
    split
    · exact h.2 i (by omega)
    · exact (crcN_zero m).symm
theorem mapTo_all {t : List Nat} {m : Nat} (h : Lin t m) {r : Nat} (hr : r < 4294967296) : mapTo t 32 r = crcN m r := by
  rw [mapTo_lin h r 32 (Nat.le_refl _), Nat.mod_eq_of_lt (by omega)]
def twiceOf (t : List Nat) : List Nat := (List.range 32).map fun i => mapTo t 32 (t.getD i 0)
theorem getD_range_map (f : Nat → Nat) (i : Nat) (h : i < 32) : ((List.range 32).map f).getD i 0 = f i := by
  rw [List.getD_eq_getElem?_getD, List.getElem?_map, List.getElem?_range h]
  rfl
theorem lin_twice {t : List Nat} {m : Nat} (h : Lin t m) : Lin (twiceOf t) (m + m) := by
  refine ⟨by simp [twiceOf], fun i hi => ?_⟩
  unfold twiceOf
  have hp : 2 ^ i < 4294967296 := by
    have : 2 ^ i < 2 ^ 32 := Nat.pow_lt_pow_right (by omega) hi
    omega
  rw [getD_range_map _ i hi, h.2 i hi, mapTo_all h (crcN_lt m hp), crcN_add]
def shiftOf : Nat → Nat → List Nat → Nat → Nat
  | 0, r, _, _ => r
  | k + 1, r, t, n => if n = 0 then r else shiftOf k (if n % 2 = 1 then mapTo t 32 r else r) (twiceOf t) (n / 2)
theorem shiftOf_lin : ∀ (k r : Nat) (t : List Nat) (m n : Nat), Lin t m → r < 4294967296 → n < 2 ^ k → shiftOf k r t n = crcN (m * n) r
  | 0, r, t, m, n, _, _, hn => by
    obtain rfl : n = 0 := by simpa using hn
    simp [shiftOf, crcN]
  | k + 1, r, t, m, n, h, hr, hn => by
    simp only [shiftOf]
    by_cases h0 : n = 0
    · subst h0
      rw [if_pos rfl, Nat.mul_zero]; rfl
    · rw [if_neg h0]
      have hn2 : n / 2 < 2 ^ k := by rw [Nat.pow_succ] at hn; omega
      by_cases ho : n % 2 = 1
      · rw [if_pos ho, mapTo_all h hr, shiftOf_lin k _ _ _ _ (lin_twice h) (crcN_lt m hr) hn2, ← crcN_add]
        congr 1
        rw [Nat.add_mul, ← Nat.mul_two]
        have : n = 2 * (n / 2) + 1 := by omega
        conv => rhs; rw [this]
        rw [Nat.mul_add, Nat.mul_one, Nat.mul_assoc, Nat.mul_comm (n / 2) 2]; omega
      · rw [if_neg ho, shiftOf_lin k _ _ _ _ (lin_twice h) hr hn2]
        congr 1
        rw [Nat.add_mul, ← Nat.mul_two]
        have : n = 2 * (n / 2) := by omega
        conv => rhs; rw [this]
        rw [Nat.mul_assoc, Nat.mul_comm (n / 2) 2]

end Go.Proofs.YtmpkigambfghgaaDoor.G
