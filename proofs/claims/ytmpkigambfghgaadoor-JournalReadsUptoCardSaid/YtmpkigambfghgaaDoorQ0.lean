/- Contracts of functions and plain laws, several texts of the session put together by its program. -/
import Derived.Test.YtmpkigambfghgaaDoorProg
import Derived.Below
import Derived.Deep.Draws
import Derived.Deep.AppendLies
import Derived.Maps.AppendAt
import Derived.OwnWalk
import Derived.Laws.BytesArg
import Derived.Laws.MakeOwn
import Derived.Laws.OwnMore
import Derived.Deep.OwnRows
import Derived.Tactics
import Derived.Lib.ConvBytes
import Derived.Laws.Slices
import Derived.WalkKit
import Derived.KernelRfl
import Derived.RowKit3
import Derived.Deep.LoopGhost
import Derived.Deep.QuietTactic
import Derived.BigQuiet
import Derived.WideLaws
import Derived.Deep.DeepCutAuto
import Derived.Deep.CutBlock
import Derived.Deep.RegionHeld3
import Derived.Laws.Rows
import Derived.Lib.AppendStr
import Derived.ArgAppend
import Derived.Laws.IdiomCopy
import Derived.OrdersHeld
import Derived.Laws.BitsLemmas
import Derived.RowKit
import Derived.Test.YtmpkigambfghgaaDoorWWords
import Derived.Test.YtmpkigambfghgaaDoorWLast
import Derived.Test.YtmpkigambfghgaaDoorWTab
import Derived.Test.YtmpkigambfghgaaDoorWFour
import Derived.Test.YtmpkigambfghgaaDoorWQPut
import Derived.Test.YtmpkigambfghgaaDoorWApart
import Derived.Test.YtmpkigambfghgaaDoorWArr
import Derived.Test.YtmpkigambfghgaaDoorWZeros
import Derived.Test.YtmpkigambfghgaaDoorWFoot
import Derived.Test.YtmpkigambfghgaaDoorWKept
import Derived.Test.YtmpkigambfghgaaDoorWShare
import Derived.Test.YtmpkigambfghgaaDoorWN
import Derived.Test.YtmpkigambfghgaaDoorWFootNe
import Derived.Test.YtmpkigambfghgaaDoorWAt
import Derived.Test.YtmpkigambfghgaaDoorWEqStruct
import Derived.Test.YtmpkigambfghgaaDoorWRepsOne
import Derived.Test.YtmpkigambfghgaaDoorWInv
import Derived.Test.YtmpkigambfghgaaDoorWInvWords
import Derived.Test.YtmpkigambfghgaaDoorWGuard
import Derived.Test.YtmpkigambfghgaaDoorWNEv
import Derived.Test.YtmpkigambfghgaaDoorWMore
import Derived.Laws.BitsAllLaws
import Derived.RangeFuncNested
import Derived.RangeFuncBound
import Derived.RangeFuncCalls
import Derived.RangeFuncLeaves
import Derived.RangeFuncBox
import Derived.OwnWalkIn
import Derived.TacticsInMore
import Derived.LoopNIn
import Derived.LoopIn

/- Contracts typed by hand: the sum in plain Lean: registers as numbers, bit by bit, and what a matrix of them does -/
namespace Go.Proofs.YtmpkigambfghgaaDoor.G
open Go.RowKit Go.Proofs.YtmpkigambfghgaaDoorW.PrintWords Go.Proofs.YtmpkigambfghgaaDoorW.PrintLast Go.Proofs.YtmpkigambfghgaaDoorW.PrintMore
attribute [local go_sem] max2_int min2_int max_two min_two max_three min_three max_four min_four
set_option linter.unusedVariables false
set_option linter.unusedSimpArgs false

/-! the sum in plain Lean: registers as numbers, bit by bit, and what a matrix of them does -/
def crcP : Nat := 2197175160
def crc1 (r : Nat) : Nat := r / 2 ^^^ (if r % 2 = 1 then crcP else 0)
def crcN : Nat → Nat → Nat
  | 0, r => r
  | n + 1, r => crcN n (crc1 r)
def crcB (r : Nat) (l : List Nat) : Nat := l.foldl (fun r b => crcN 8 (r ^^^ b)) r
theorem crcB_nil (r : Nat) : crcB r [] = r := rfl
theorem crcB_cons (r b : Nat) (l : List Nat) : crcB r (b :: l) = crcB (crcN 8 (r ^^^ b)) l := rfl
theorem crcB_append (r : Nat) (a b : List Nat) : crcB r (a ++ b) = crcB (crcB r a) b := by unfold crcB; rw [List.foldl_append]
theorem xor_self_mid (a b c : Nat) : (a ^^^ b) ^^^ (c ^^^ b) = a ^^^ c := by
  rw [Nat.xor_comm c b, Nat.xor_assoc, ← Nat.xor_assoc b b c, Nat.xor_self, Nat.zero_xor]
theorem xor_cancel (a b : Nat) : (a ^^^ b) ^^^ b = a := by rw [Nat.xor_assoc, Nat.xor_self, Nat.xor_zero]
theorem xor_mid (a b c d : Nat) : (a ^^^ b) ^^^ (c ^^^ d) = (a ^^^ c) ^^^ (b ^^^ d) := by
  rw [Nat.xor_assoc, Nat.xor_assoc, ← Nat.xor_assoc b c d, Nat.xor_comm b c, Nat.xor_assoc c b d]
theorem xor_odd (a b : Nat) : (a ^^^ b) % 2 = (a % 2 + b % 2) % 2 := by
  have h := Nat.xor_mod_two_pow (a := a) (b := b) (n := 1)
  rw [Nat.pow_one] at h
  rw [h]
  rcases Nat.mod_two_eq_zero_or_one a with ha | ha <;> rcases Nat.mod_two_eq_zero_or_one b with hb | hb <;> rw [ha, hb] <;> rfl
theorem xor_half (a b : Nat) : (a ^^^ b) / 2 = a / 2 ^^^ b / 2 := by
  have h := Nat.shiftRight_xor_distrib (a := a) (b := b) (i := 1)
  simpa [Nat.shiftRight_succ] using h
theorem crc1_xor (a b : Nat) : crc1 (a ^^^ b) = crc1 a ^^^ crc1 b := by
  unfold crc1
  rw [xor_half, xor_odd, xor_mid]
  congr 1
  rcases Nat.mod_two_eq_zero_or_one a with ha | ha <;> rcases Nat.mod_two_eq_zero_or_one b with hb | hb <;> rw [ha, hb] <;> simp
theorem crcN_xor : ∀ n a b, crcN n (a ^^^ b) = crcN n a ^^^ crcN n b
  | 0, _, _ => rfl
  | n + 1, a, b => by simp only [crcN]; rw [crc1_xor, crcN_xor n]
theorem crcN_zero : ∀ n, crcN n 0 = 0
  | 0 => rfl
  | n + 1 => by simp only [crcN]; rw [show crc1 0 = 0 by rfl, crcN_zero n]
theorem crcN_add : ∀ m n r, crcN (m + n) r = crcN n (crcN m r)
  | 0, n, r => by rw [Nat.zero_add]; rfl
  | m + 1, n, r => by rw [show m + 1 + n = (m + n) + 1 by omega]; simp only [crcN]; exact crcN_add m n _
theorem crc1_double (x : Nat) : crc1 (2 * x) = x := by
  unfold crc1
  rw [if_neg (by omega)]
  simp
theorem crcN_pow : ∀ m x, crcN m (2 ^ m * x) = x
  | 0, x => by simp [crcN]
  | m + 1, x => by simp only [crcN]; rw [Nat.pow_succ, show 2 ^ m * 2 * x = 2 * (2 ^ m * x) by rw [Nat.mul_comm (2 ^ m) 2, Nat.mul_assoc], crc1_double, crcN_pow m x]
theorem crc1_lt {r : Nat} (h : r < 4294967296) : crc1 r < 4294967296 := by
  unfold crc1
  refine Nat.xor_lt_two_pow (n := 32) (by omega) ?_
  split
  · unfold crcP; omega
  · omega
theorem crcN_lt : ∀ n {r : Nat}, r < 4294967296 → crcN n r < 4294967296
  | 0, _, h => h
  | n + 1, _, h => by simp only [crcN]; exact crcN_lt n (crc1_lt h)
theorem xor_lt {a b : Nat} (ha : a < 4294967296) (hb : b < 4294967296) : a ^^^ b < 4294967296 := Nat.xor_lt_two_pow (n := 32) ha hb
theorem crcB_lt : ∀ (l : List Nat) (r : Nat), r < 4294967296 → (∀ b ∈ l, b < 256) → crcB r l < 4294967296
  | [], _, h, _ => h
  | b :: l, r, h, hb => by
    rw [crcB_cons]
    exact crcB_lt l _ (crcN_lt 8 (xor_lt h (by have := hb b List.mem_cons_self; omega))) (fun c hc => hb c (List.mem_cons_of_mem _ hc))
/-- low part and high part, exclusive-ored, are the number -/
theorem xor_split (m r : Nat) : 2 ^ m * (r / 2 ^ m) ^^^ r % 2 ^ m = r := by
  apply Nat.eq_of_testBit_eq
  intro i
  rw [Nat.testBit_xor, Nat.testBit_two_pow_mul, Nat.testBit_mod_two_pow, Nat.testBit_div_two_pow]
  by_cases h : i < m
  · rw [decide_eq_false (show ¬ m ≤ i by omega), decide_eq_true h]
    simp
  · rw [decide_eq_true (show m ≤ i by omega), decide_eq_false h, show i - m + m = i by omega]
    simp
theorem crcN_split (m r : Nat) : crcN m r = r / 2 ^ m ^^^ crcN m (r % 2 ^ m) := by
  conv => lhs; rw [← xor_split m r]
  rw [crcN_xor, crcN_pow]
theorem crcB_xor : ∀ (a b : List Nat) (r s : Nat), a.length = b.length → crcB (r ^^^ s) (List.zipWith (· ^^^ ·) a b) = crcB r a ^^^ crcB s b
  | [], [], _, _, _ => rfl
  | x :: a, y :: b, r, s, h => by
    rw [List.zipWith_cons_cons, crcB_cons, crcB_cons, crcB_cons]
    rw [show (r ^^^ s) ^^^ (x ^^^ y) = (r ^^^ x) ^^^ (s ^^^ y) from xor_mid r s x y, crcN_xor]
    exact crcB_xor a b _ _ (by simpa using h)
theorem crcB_zeros : ∀ (n r : Nat), crcB r (List.replicate n 0) = crcN (8 * n) r
  | 0, _ => rfl
  | n + 1, r => by rw [List.replicate_succ, crcB_cons, Nat.xor_zero, crcB_zeros n, show 8 * (n + 1) = 8 + 8 * n by omega, crcN_add]
theorem crcB_split (l : List Nat) (r : Nat) : crcB r l = crcN (8 * l.length) r ^^^ crcB 0 l := by
  have h := crcB_xor (List.replicate l.length 0) l r 0 (by simp)
  rw [Nat.xor_zero, crcB_zeros] at h
  rw [← h]
  congr 1
  apply List.ext_getElem
  · simp
  · intro i h1 h2
    simp
/-- back by one bit -/
def crcU (r : Nat) : Nat := if r / 2147483648 = 1 then (r ^^^ crcP) * 2 % 4294967296 + 1 else r * 2 % 4294967296
theorem top_bit {r : Nat} (h : r < 4294967296) : r / 2147483648 = 1 ↔ r.testBit 31 = true := by
  rw [Nat.testBit_eq_decide_div_mod_eq, decide_eq_true_eq]
  omega
theorem crcP_top : crcP.testBit 31 = true := by decide
theorem xor_top {r : Nat} (h : r < 4294967296) (ht : r / 2147483648 = 1) : r ^^^ crcP < 2147483648 := by
  have hx : r ^^^ crcP < 4294967296 := xor_lt h (by unfold crcP; omega)
  have hb : (r ^^^ crcP).testBit 31 = false := by rw [Nat.testBit_xor, (top_bit h).1 ht, crcP_top]; rfl
  have := top_bit hx
  rw [hb] at this
  have : ¬ (r ^^^ crcP) / 2147483648 = 1 := fun e => Bool.false_ne_true (this.1 e)
  omega
theorem crc1_crcU {r : Nat} (h : r < 4294967296) : crc1 (crcU r) = r := by
  unfold crcU
  by_cases ht : r / 2147483648 = 1
  · rw [if_pos ht]
    have := xor_top h ht
    rw [Nat.mod_eq_of_lt (by omega)]
    unfold crc1
    rw [if_pos (by omega), show ((r ^^^ crcP) * 2 + 1) / 2 = r ^^^ crcP by omega, xor_cancel]
  · rw [if_neg ht, Nat.mod_eq_of_lt (by omega), Nat.mul_comm, crc1_double]
theorem crcU_crc1 {r : Nat} (h : r < 4294967296) : crcU (crc1 r) = r := by
  unfold crc1
  by_cases ho : r % 2 = 1
  · rw [if_pos ho]
    have hp : r / 2 ^^^ crcP < 4294967296 := xor_lt (by omega) (by unfold crcP; omega)
    have hb : (r / 2 ^^^ crcP) / 2147483648 = 1 := by
      rw [top_bit hp, Nat.testBit_xor, crcP_top, Nat.testBit_lt_two_pow (show r / 2 < 2 ^ 31 by omega)]
      rfl
    unfold crcU
    rw [if_pos hb, xor_cancel]
    omega
  · rw [if_neg ho, Nat.xor_zero]
    unfold crcU
    rw [if_neg (by omega)]
    omega
theorem crcU_lt {r : Nat} (h : r < 4294967296) : crcU r < 4294967296 := by
  unfold crcU
  split
  · have := xor_top h (by assumption)
    omega
  · omega
def crcUN : Nat → Nat → Nat
  | 0, r => r
  | n + 1, r => crcUN n (crcU r)
theorem crcUN_lt : ∀ n {r : Nat}, r < 4294967296 → crcUN n r < 4294967296
  | 0, _, h => h
  | n + 1, _, h => by simp only [crcUN]; exact crcUN_lt n (crcU_lt h)
theorem crcN_crcUN : ∀ n {r : Nat}, r < 4294967296 → crcN n (crcUN n r) = r
  | 0, _, _ => rfl
  | n + 1, r, h => by
    simp only [crcUN]
    rw [show n + 1 = n + 1 from rfl, crcN_add n 1, crcN_crcUN n (crcU_lt h)]
    exact crc1_crcU h
theorem crc1_inj {a b : Nat} (ha : a < 4294967296) (hb : b < 4294967296) (h : crc1 a = crc1 b) : a = b := by
  rw [← crcU_crc1 ha, ← crcU_crc1 hb, h]
theorem crcN_inj : ∀ n {a b : Nat}, a < 4294967296 → b < 4294967296 → crcN n a = crcN n b → a = b
  | 0, _, _, _, _, h => h
  | n + 1, _, _, ha, hb, h => crc1_inj ha hb (crcN_inj n (crc1_lt ha) (crc1_lt hb) h)
/-- four bytes, the lowest first, taken at once -/
theorem crcB_four (r a b c d : Nat) (ha : a < 256) (hb : b < 256) (hc : c < 256) (hd : d < 256) : crcB r [a, b, c, d] = crcN 32 (r ^^^ (a + 256 * b + 65536 * c + 16777216 * d)) := by
  have key : ∀ (m r x y : Nat), x < 256 → crcN (8 + m) (r ^^^ (x + 256 * y)) = crcN m (crcN 8 (r ^^^ x) ^^^ y) := by
    intro m r x y hx
    have e := xor_split 8 (x + 256 * y)
    rw [show (2 : Nat) ^ 8 = 256 by rfl, show (x + 256 * y) / 256 = y by omega, show (x + 256 * y) % 256 = x by omega] at e
    have e2 := crcN_pow 8 y
    rw [show (2 : Nat) ^ 8 = 256 by rfl] at e2
    rw [crcN_add, ← e, Nat.xor_comm (256 * y) x, ← Nat.xor_assoc, crcN_xor 8 _ (256 * y), e2]
  rw [crcB_cons, crcB_cons, crcB_cons, crcB_cons, crcB_nil]
  rw [show (32 : Nat) = 8 + 24 by rfl, show a + 256 * b + 65536 * c + 16777216 * d = a + 256 * (b + 256 * (c + 256 * d)) by omega, key 24 r a _ ha, show (24 : Nat) = 8 + 16 by rfl, key 16 _ b _ hb, show (16 : Nat) = 8 + 8 by rfl, key 8 _ c _ hc]
/-! a list of 32 numbers as a map of registers -/
def mapTo (t : List Nat) : Nat → Nat → Nat
  | 0, _ => 0
  | i + 1, r => mapTo t i r ^^^ (if r.testBit i = true then t.getD i 0 else 0)
def Lin (t : List Nat) (m : Nat) : Prop := t.length = 32 ∧ ∀ i, i < 32 → t.getD i 0 = crcN m (2 ^ i)
theorem mod_succ_bit (r i : Nat) : r % 2 ^ (i + 1) = (r % 2 ^ i) ^^^ (if r.testBit i = true then 2 ^ i else 0) := by
  apply Nat.eq_of_testBit_eq
  intro j
  rw [Nat.testBit_xor, Nat.testBit_mod_two_pow, Nat.testBit_mod_two_pow]
  rcases Nat.lt_trichotomy j i with h | h | h
  · rw [decide_eq_true (show j < i + 1 by omega), decide_eq_true h]
    split
    · rw [Nat.testBit_two_pow, decide_eq_false (show ¬ i = j by omega)]; simp
    · simp
  · subst h
    rw [decide_eq_true (show j < j + 1 by omega), decide_eq_false (show ¬ j < j by omega)]
    split
    · rename_i hb
      rw [hb, Nat.testBit_two_pow, decide_eq_true rfl]; rfl
    · rename_i hb
      simp only [Bool.not_eq_true] at hb
      rw [hb]; simp
  · rw [decide_eq_false (show ¬ j < i + 1 by omega), decide_eq_false (show ¬ j < i by omega)]
    split
    · rw [Nat.testBit_two_pow, decide_eq_false (show ¬ i = j by omega)]; rfl
    · simp
theorem mapTo_lin {t : List Nat} {m : Nat} (h : Lin t m) (r : Nat) : ∀ i, i ≤ 32 → mapTo t i r = crcN m (r % 2 ^ i)
  | 0, _ => by rw [Nat.pow_zero, Nat.mod_one, crcN_zero]; rfl
  | i + 1, hi => by
    rw [mod_succ_bit, crcN_xor, ← mapTo_lin h r i (by omega)]
    simp only [mapTo]
    congr 1
    split
    · exact h.2 i (by omega)
    · exact (crcN_zero m).symm
theorem mapTo_all {t : List Nat} {m : Nat} (h : Lin t m) {r : Nat} (hr : r < 4294967296) : mapTo t 32 r = crcN m r := by
  rw [mapTo_lin h r 32 (Nat.le_refl _), Nat.mod_eq_of_lt (by omega)]
def twiceOf (t : List Nat) : List Nat := (List.range 32).map fun i => mapTo t 32 (t.getD i 0)
theorem getD_range_map (f : Nat → Nat) (i : Nat) (h : i < 32) : ((List.range 32).map f).getD i 0 = f i := by
  rw [List.getD_eq_getElem?_getD, List.getElem?_map, List.getElem?_range h]
  rfl
theorem lin_twice {t : List Nat} {m : Nat} (h : Lin t m) : Lin (twiceOf t) (m + m) := by
  refine ⟨by simp [twiceOf], fun i hi => ?_⟩
  unfold twiceOf
  have hp : 2 ^ i < 4294967296 := by
    have : 2 ^ i < 2 ^ 32 := Nat.pow_lt_pow_right (by omega) hi
    omega
  rw [getD_range_map _ i hi, h.2 i hi, mapTo_all h (crcN_lt m hp), crcN_add]
def shiftOf : Nat → Nat → List Nat → Nat → Nat
  | 0, r, _, _ => r
  | k + 1, r, t, n => if n = 0 then r else shiftOf k (if n % 2 = 1 then mapTo t 32 r else r) (twiceOf t) (n / 2)
theorem shiftOf_lin : ∀ (k r : Nat) (t : List Nat) (m n : Nat), Lin t m → r < 4294967296 → n < 2 ^ k → shiftOf k r t n = crcN (m * n) r
  | 0, r, t, m, n, _, _, hn => by
    obtain rfl : n = 0 := by simpa using hn
    simp [shiftOf, crcN]
  | k + 1, r, t, m, n, h, hr, hn => by
    simp only [shiftOf]
    by_cases h0 : n = 0
    · subst h0
      rw [if_pos rfl, Nat.mul_zero]; rfl
    · rw [if_neg h0]
      have hn2 : n / 2 < 2 ^ k := by rw [Nat.pow_succ] at hn; omega
      by_cases ho : n % 2 = 1
      · rw [if_pos ho, mapTo_all h hr, shiftOf_lin k _ _ _ _ (lin_twice h) (crcN_lt m hr) hn2, ← crcN_add]
        congr 1
        rw [Nat.add_mul, ← Nat.mul_two]
        have : n = 2 * (n / 2) + 1 := by omega
        conv => rhs; rw [this]
        rw [Nat.mul_add, Nat.mul_one, Nat.mul_assoc, Nat.mul_comm (n / 2) 2]; omega
      · rw [if_neg ho, shiftOf_lin k _ _ _ _ (lin_twice h) hr hn2]
        congr 1
        rw [Nat.add_mul, ← Nat.mul_two]
        have : n = 2 * (n / 2) := by omega
        conv => rhs; rw [this]
        rw [Nat.mul_assoc, Nat.mul_comm (n / 2) 2]

end Go.Proofs.YtmpkigambfghgaaDoor.G

/- Contracts typed by hand: check.take: a register takes a byte, by the table of half bytes -/
namespace Go.Proofs.YtmpkigambfghgaaDoor.G
open Go.RowKit Go.Proofs.YtmpkigambfghgaaDoorW.PrintWords Go.Proofs.YtmpkigambfghgaaDoorW.PrintLast Go.Proofs.YtmpkigambfghgaaDoorW.PrintMore
attribute [local go_sem] max2_int min2_int max_two min_two max_three min_three max_four min_four
set_option linter.unusedVariables false
set_option linter.unusedSimpArgs false

/-! check.take: a register takes a byte, by the table of half bytes -/
def shortL : List Nat := [0, 274646895, 549293790, 820201905, 1098587580, 1361435347, 1640403810, 1905808397, 2197175160, 2460548119, 2722870694, 2987750089, 3280807620, 3553878443, 3811616794, 4084100981]
/-- the table lies where the program's first variable lies -/
structure TabAt (w : World) : Prop where
  cell : ∀ i : Nat, i < 16 → w.cell? ⟨0, i, none⟩ = some (.int .u32 ((shortL.getD i 0 : Nat) : Int))
theorem TabAt.blk {w : World} (h : TabAt w) : 0 < w.heap.size := World.block_lt_of_cell? w _ (h.cell 0 (by omega))
theorem TabAt.below {w w1 : World} (h : TabAt w) (hb : Below w.heap.size w w1) : TabAt w1 := ⟨fun i hi => (hb.cell (p := ⟨0, i, none⟩) h.blk).trans (h.cell i hi)⟩
theorem TabAt.drewN {w : World} (h : TabAt w) (n : Nat) : TabAt (w.drewN n) := h.below (pw_below_drewN (Below.refl _ _) n)
theorem TabAt.drew {w : World} (h : TabAt w) : TabAt w.drew := h.below (below_drew (Below.refl _ _))
theorem TabAt.alloc {w : World} (h : TabAt w) (o : Obj) : TabAt (w.alloc o) := h.below (below_alloc (Below.refl _ _) o)
theorem shortL_lt (i : Nat) (h : i < 16) : shortL.getD i 0 < 4294967296 := by
  have : ∀ j : Fin 16, shortL.getD j.1 0 < 4294967296 := by decide
  exact this ⟨i, h⟩
theorem shortL_crc (i : Nat) (h : i < 16) : shortL.getD i 0 = crcN 4 i := by
  have : ∀ j : Fin 16, shortL.getD j.1 0 = crcN 4 j.1 := by decide
  exact this ⟨i, h⟩
theorem take_step (r : Nat) : r / 16 ^^^ shortL.getD (r % 16) 0 = crcN 4 r := by
  rw [shortL_crc _ (by omega)]
  exact (crcN_split 4 r).symm
theorem and15 (r : Nat) (h : r < 4294967296) : bits .and .u32 (r : Int) 15 = ((r % 16 : Nat) : Int) := by
  rw [show (15 : Int) = ((15 : Nat) : Int) by rfl, u32_and_nat r 15 h (by omega)]
  congr 1
  have := Nat.and_two_pow_sub_one_eq_mod r 4
  simpa using this
def check_take.f (a0 a1 : Int) : Option Int := if 0 ≤ a0 ∧ a0 < 4294967296 ∧ 0 ≤ a1 ∧ a1 < 256 then some ((crcN 8 (a0.toNat ^^^ a1.toNat) : Nat) : Int) else none
set_option maxHeartbeats 1000000 in
theorem check_take.calls (a0 a1 : Int) (r : Int) (w : World) (h : check_take.f a0 a1 = some r) (hTab : TabAt w) :
    Calls Tryd.prog 47 #[.int .u32 a0, .int .u8 a1] w fun e w' => e = .returned (.int .u32 r) ∧ Drawn0 w w' := by
  unfold check_take.f at h
  by_cases hc : 0 ≤ a0 ∧ a0 < 4294967296 ∧ 0 ≤ a1 ∧ a1 < 256
  · rw [if_pos hc] at h
    obtain rfl := Option.some.inj h
    clear h
    obtain ⟨c0, c1, c2, c3⟩ := hc
    obtain ⟨a, rfl⟩ := Int.eq_ofNat_of_zero_le c0
    obtain ⟨b, rfl⟩ := Int.eq_ofNat_of_zero_le c2
    rw [Int.toNat_natCast, Int.toNat_natCast]
    have hx : bits .xor .u32 (a : Int) (b : Int) = ((a ^^^ b : Nat) : Int) := u32_xor_nat a b (by omega) (by omega)
    have hlt : a ^^^ b < 4294967296 := xor_lt (by omega) (by omega)
    generalize a ^^^ b = x at *
    obtain ⟨z, hz⟩ : ∃ z, crcN 8 x = z := ⟨_, rfl⟩
    rw [hz]
    have HZ := Aside0.mk hz
    clear hz
    have HT := Aside0.mk hTab
    clear hTab
    go_enter Tryd.func47, Tryd.ntmps47
    go_wp2
    go_loop [0, 9] (fun v0 v9 => ∃ (k r : Nat), k ≤ 2 ∧ v9 = .int .i64 (k : Int) ∧ v0 = .int .u32 (r : Int) ∧ r < 4294967296 ∧ Aside0 (crcN (8 - 4 * k) r = z)) (fun _ v9 => 2 - (intOf v9).toNat)
    case atStart => exact ⟨0, x, by omega, rfl, rfl, hlt, HZ⟩
    case round =>
      clear HZ hx hlt
      obtain ⟨k, r, hk, rfl, rfl, hr, HR⟩ := hrel
      by_cases hk2 : k < 2
      · have hcell := HT.out.cell (r % 16) (by omega)
        have hs := shortL_lt (r % 16) (by omega)
        have ha := and15 r hr
        have hd : (r : Int) / 16 = ((r / 16 : Nat) : Int) := by omega
        have hn := u32_xor_nat (r / 16) (shortL.getD (r % 16) 0) (by omega) hs
        have hnl : r / 16 ^^^ shortL.getD (r % 16) 0 < 4294967296 := xor_lt (by omega) hs
        have hst := take_step r
        have hq : r % 16 < 16 := by omega
        generalize hi : r % 16 = i at *
        generalize shortL.getD i 0 = s at *
        generalize hj : r / 16 = j at *
        generalize j ^^^ s = m at *
        have HST := Aside0.mk hst
        have HI := Aside0.mk hi
        have HJ := Aside0.mk hj
        have b1 : decide ((k : Int) < 2) = true := decide_eq_true (by omega)
        clear hst hi hj
        go_wp2
        go_round
        case rel =>
          refine ⟨k + 1, m, by omega, by go_num, rfl, hnl, ⟨?_⟩⟩
          rw [HST.out, ← crcN_add, ← HR.out]
          congr 1
          omega
        case measure => simp [intOf]; omega
      · obtain rfl : k = 2 := by omega
        have hz := HR.out
        simp only [Nat.reduceMul, Nat.sub_self, crcN] at hz
        subst hz
        go_wp2
        go_ret
        exact ⟨rfl, Drawn0.refl _⟩
  · rw [if_neg hc] at h
    cases h

end Go.Proofs.YtmpkigambfghgaaDoor.G

/- Printed by the session's program over the kit's print, out of the translation: functions as plain Lean functions, and the proofs that the calls come to them. -/
namespace Go.Proofs.YtmpkigambfghgaaDoor.G
open Go.RowKit Go.Proofs.YtmpkigambfghgaaDoorW.PrintWords Go.Proofs.YtmpkigambfghgaaDoorW.PrintLast Go.Proofs.YtmpkigambfghgaaDoorW.PrintMore
attribute [local go_sem] max2_int min2_int max_two min_two max_three min_three max_four min_four   -- for this text's walks alone
set_option linter.unusedVariables false
set_option linter.unusedSimpArgs false



def errW : Option Int → Value
  | none => .nilIface
  | some c => .iface 0 (.int .i64 c)
theorem errW_none : errW none = .nilIface := rfl
theorem errW_some (c : Int) : errW (some c) = .iface 0 (.int .i64 c) := rfl

theorem info5 : (Tryd.prog.info? 5).map (fun i => (i.zero, i.size, i.bytes)) = some (some (.int .u8 0), 1, 1) := by kernel_rfl
theorem info60 : (Tryd.prog.info? 60).map (fun i => (i.zero, i.size, i.bytes)) = some (some (.agg #[(.slice none 0 0), (.int .i64 0)]), 2, 32) := by kernel_rfl
-- the values' own types
def rd_L1 (xs : List (List Int)) (i : Int) : (List Int) := xs.getD i.toNat ([] : List Int)
theorem at_L1 {w : World} {A : Option Addr} {n : Nat} {xs : List (List Int)} (h : Kd.C (Kd.slice 5 (Kd.int .u8)) w A n xs) (i : Int) (h0 : 0 ≤ i) (h1 : i < n) : ∃ ad A0 c0, A = some ad ∧ w.cell? (ad.add i.toNat) = some (.slice A0 (rd_L1 xs i).length c0) ∧ (rd_L1 xs i).length ≤ c0 ∧ (Kd.int .u8).C w A0 (rd_L1 xs i).length (rd_L1 xs i) := by
  obtain ⟨ad, c, e, _, hK, hc0⟩ := Kd.C_get h ([] : List Int) i h0 h1
  have hc : ∀ j u, c[j]? = some u → w.cell? (ad.add (i.toNat * 1 + j)) = some u := hc0
  obtain ⟨A0, c0, rfl, l0, g0⟩ := hK
  exact ⟨ad, A0, c0, e, by have hq := hc 0 _ rfl; rwa [Nat.mul_one, Nat.add_zero] at hq, l0, g0⟩

/-! #### struct type 60 -/
structure S60 where
  f0 : (List Int)
  f1 : Int
def z60 : S60 := ⟨([] : List Int), (0 : Int)⟩
def k60 : Kd S60 := Kd.iso (Kd.pair (Kd.slice 5 (Kd.int .u8)) (Kd.int .i64)) (fun x : S60 => (x.f0, x.f1))
theorem k60_open {w : World} {x : S60} {cs : List Value} (h : k60.K w x cs) : ∃ A0 c0, cs = [.slice A0 x.f0.length c0, .int .i64 x.f1] ∧ x.f0.length ≤ c0 ∧ (Kd.int .u8).C w A0 x.f0.length x.f0 := by
  obtain ⟨_, _, rfl, ⟨A0, c0, rfl, l0, g0⟩, rfl⟩ := h
  exact ⟨A0, c0, rfl, l0, g0⟩
theorem k60_openM {w : World} {base : Nat} {ok : Nat → Prop} {x : S60} {cs : List Value} (h : k60.M w base ok x cs) : ∃ v0, cs = [v0, .int .i64 x.f1] ∧ (Kd.int .u8).R 5 w base ok v0 x.f0 := by
  obtain ⟨_, _, rfl, ⟨v0, rfl, g0⟩, rfl⟩ := h
  exact ⟨v0, rfl, g0⟩
theorem k60_mk (w : World) (x : S60) {A0 : Option Addr} {c0 : Nat} (l0 : x.f0.length ≤ c0) (g0 : (Kd.int .u8).C w A0 x.f0.length x.f0) : k60.K w x [.slice A0 x.f0.length c0, .int .i64 x.f1] := ⟨[.slice A0 x.f0.length c0], [.int .i64 x.f1], rfl, ⟨A0, c0, rfl, l0, g0⟩, rfl⟩
theorem k60_mkM (w : World) (base : Nat) (ok : Nat → Prop) (x : S60) {v0 : Value} (g0 : (Kd.int .u8).R 5 w base ok v0 x.f0) : k60.M w base ok x [v0, .int .i64 x.f1] := ⟨[v0], [.int .i64 x.f1], rfl, ⟨v0, rfl, g0⟩, rfl⟩
theorem k60_openF {W : World} {ok : Nat → Prop} {x : S60} {cs : List Value} (h : Kd.FK k60 W ok x cs) : ∃ A0 c0, cs = [.slice A0 x.f0.length c0, .int .i64 x.f1] ∧ x.f0.length ≤ c0 ∧ Kd.F (Kd.int .u8) W ok A0 x.f0.length x.f0 := by
  obtain ⟨A0, c0, rfl, l0, _⟩ := k60_open (Kd.FK_now h)
  exact ⟨A0, c0, rfl, l0, (fun W' hW => by obtain ⟨A0_, c0_, he, l0_, g0_⟩ := k60_open (h W' hW); injection (Option.some.inj (show some (Value.slice A0 x.f0.length c0) = some (Value.slice A0_ x.f0.length c0_) from congrArg (fun l => l[0]?) he)) with ha_ _ _; rw [ha_]; exact g0_)⟩
theorem k60_mkF (W : World) (ok : Nat → Prop) (x : S60) {A0 : Option Addr} {c0 : Nat} (l0 : x.f0.length ≤ c0) (g0 : Kd.F (Kd.int .u8) W ok A0 x.f0.length x.f0) : Kd.FK k60 W ok x [.slice A0 x.f0.length c0, .int .i64 x.f1] := fun W2 hW => k60_mk W2 x l0 (g0 W2 hW)
def rd_T60 (xs : List S60) (i : Int) : S60 := xs.getD i.toNat z60
theorem at_T60 {w : World} {A : Option Addr} {n : Nat} {xs : List S60} (h : Kd.C k60 w A n xs) (i : Int) (h0 : 0 ≤ i) (h1 : i < n) : ∃ ad A0 c0, A = some ad ∧ w.cell? (ad.add (i.toNat * 2)) = some (.slice A0 (rd_T60 xs i).f0.length c0) ∧ w.cell? ⟨(ad.add (i.toNat * 2)).block, (ad.add (i.toNat * 2)).off + 1, none⟩ = some (.int .i64 (rd_T60 xs i).f1) ∧ (rd_T60 xs i).f0.length ≤ c0 ∧ (Kd.int .u8).C w A0 (rd_T60 xs i).f0.length (rd_T60 xs i).f0 := by
  obtain ⟨ad, c, e, _, hK, hc0⟩ := Kd.C_get h z60 i h0 h1
  have hc : ∀ j u, c[j]? = some u → w.cell? (ad.add (i.toNat * 2 + j)) = some u := hc0
  obtain ⟨A0, c0, rfl, l0, g0⟩ := k60_open hK
  exact ⟨ad, A0, c0, e, hc 0 _ rfl, by rw [← add_field _ _ 1 (by omega)]; exact hc 1 _ rfl, l0, g0⟩

end Go.Proofs.YtmpkigambfghgaaDoor.G

/- Printed by the session's program over the kit's print, out of the translation: functions as plain Lean functions, and the proofs that the calls come to them. -/
namespace Go.Proofs.YtmpkigambfghgaaDoor.G
open Go.RowKit Go.Proofs.YtmpkigambfghgaaDoorW.PrintWords Go.Proofs.YtmpkigambfghgaaDoorW.PrintLast Go.Proofs.YtmpkigambfghgaaDoorW.PrintMore
attribute [local go_sem] max2_int min2_int max_two min_two max_three min_three max_four min_four   -- for this text's walks alone
set_option linter.unusedVariables false
set_option linter.unusedSimpArgs false

/-! ### check_Extend: function 42 -/
def check_Extend.l0 : Nat → Int → List Int → Int → Int → Option (Int)
  | 0, _, _, _, _ => none
  | k + 1, x5, x10, x11, x12 => if x12 < x11 then (if 0 ≤ x12 then (if x12 < (x10.length : Int) then ((check_take.f x5 (rd x10 x12)).bind fun t102 => (check_Extend.l0 k t102 x10 x11 (wrap64 (x12 + 1)))) else (none)) else (none)) else (some (Go.bits .xor .u32 4294967295 x5))
def check_Extend.f (k : Nat) (a0 : Int) (l1 : List Int) : Option (Int) := check_Extend.l0 k (Go.bits .xor .u32 4294967295 a0) l1 (l1.length : Int) 0
theorem check_Extend.mono_l : ∀ k, (∀ y0 y1 y2 y3, LeO (check_Extend.l0 k y0 y1 y2 y3) (check_Extend.l0 (k + 1) y0 y1 y2 y3))
  | 0 => fun _ _ _ _ r h => by simp [check_Extend.l0] at h
  | k + 1 => by
    have ih0 := check_Extend.mono_l k
    · intro y0 y1 y2 y3
      unfold check_Extend.l0
      repeat' first
      | (with_reducible exact ih0 _ _ _ _)
      | (with_reducible exact LeO.refl _)
      | (with_reducible exact LeO.none _)
      | (with_reducible refine LeO.ite ?_ ?_)
      | (with_reducible refine LeO.bind ?_ (fun _ => ?_))
      | exact ih0 _ _ _ _
      | exact LeO.none _
      | refine LeO.ite ?_ ?_
      | refine LeO.bind ?_ (fun _ => ?_)
theorem check_Extend.mono : ∀ a0 a1 k, LeO (check_Extend.f k a0 a1) (check_Extend.f (k + 1) a0 a1) := by
  intro a0 a1 k
  have ih0 := check_Extend.mono_l k
  unfold check_Extend.f
  repeat' first
      | (with_reducible exact ih0 _ _ _ _)
      | (with_reducible exact LeO.refl _)
      | (with_reducible exact LeO.none _)
      | (with_reducible refine LeO.ite ?_ ?_)
      | (with_reducible refine LeO.bind ?_ (fun _ => ?_))
      | exact ih0 _ _ _ _
      | exact LeO.none _
      | refine LeO.ite ?_ ?_
      | refine LeO.bind ?_ (fun _ => ?_)
set_option maxHeartbeats 8000000 in
set_option maxRecDepth 100000 in
theorem check_Extend.calls (k : Nat) (a0 : Int) (A1 : Option Addr) (c1 : Nat) (l1 : List Int) (r : Int) (w : World) (hr1 : Kd.C (Kd.int .u8) w A1 l1.length l1) (hc1 : l1.length ≤ c1) (h : check_Extend.f k a0 l1 = some r) (hTab : TabAt w) :
    Calls Tryd.prog 42 #[.int .u32 a0, .slice A1 l1.length c1] w fun e w' => e = .returned (.int .u32 r) ∧ Drawn0 w w' := by
  have HTAB := Aside0.mk hTab
  clear hTab
  have HR1 := Aside0.mk hr1
  have HC1 := Aside0.mk hc1
  clear hr1 hc1
  have H : (check_Extend.l0 k (Go.bits .xor .u32 4294967295 a0) l1 (l1.length : Int) 0) = some r := h
  clear h
  have H' := Aside0.mk H
  clear H
  go_enter Tryd.func42, Tryd.ntmps42
  go_wp2
  go_loopg [5, 12] k (fun kq v5 v12 w' => ∃ (x5_1 : Int) (x12_1 : Int), v5 = .int .u32 x5_1 ∧ v12 = .int .i64 x12_1 ∧ Aside0 (check_Extend.l0 kq x5_1 l1 (l1.length : Int) x12_1 = some r) ∧ Aside0 (kq ≤ k) ∧ Drawn0 w w')
  case atStart => exact ⟨(Go.bits .xor .u32 4294967295 a0), (0), (by first | rfl | (simp; done) | (simp [*]; done)), (by first | rfl | (simp; done) | (simp [*]; done)), H', ⟨Nat.le_refl _⟩, by repeat (first | exact Drawn0.refl _ | apply Drawn0.step)⟩
  case round =>
    clear H'
    try clear c1
    try clear p2
    obtain ⟨x5_1, x12_1, rfl, rfl, HA, HK1, ⟨m1, rfl⟩⟩ := hrel
    cases gk with
    | zero => exact absurd HA.out (by simp [check_Extend.l0])
    | succ k1 =>
      have H := HA.out
      clear HA
      simp only [check_Extend.l0] at H
      by_cases c3 : x12_1 < (l1.length : Int)
      · rw [if_pos c3] at H
        have c3b0 : decide (x12_1 < (l1.length : Int)) = true := decide_eq_true c3
        clear c3
        by_cases c4 : 0 ≤ x12_1
        · rw [if_pos c4] at H
          have c4b0 : decide (0 ≤ x12_1) = true := decide_eq_true c4
          clear c4
          by_cases c5 : x12_1 < (l1.length : Int)
          · rw [if_pos c5] at H
            have c5b0 : decide (x12_1 < (l1.length : Int)) = true := decide_eq_true c5
            clear c5
            replace H := Option.bind_eq_some_iff.mp H
            obtain ⟨t102, A60, H⟩ := H
            replace H : (check_Extend.l0 k1 t102 l1 (l1.length : Int) (wrap64 (x12_1 + 1))) = some r := H
            have A6 := Aside0.mk A60
            clear A60
            have H' := Aside0.mk H
            clear H
            have p101 : 0 ≤ (x12_1 : Int) := of_decide_eq_true (by first | (with_reducible assumption) | assumption)
            have q101 : x12_1 < (l1.length : Int) := of_decide_eq_true (by first | (with_reducible assumption) | assumption)
            obtain ⟨ad101, e101, hx101_0⟩ := Kd.at_int HR1.out x12_1 p101 q101
            cases e101
            replace p101 := eq_true p101
            replace q101 := eq_true q101
            go_wp2_with (first | ((with_reducible refine gate_callee (f := 47) rfl ?_); refine goesL_ (some 18) rfl rfl Tryd.func47 (by kernel_rfl) rfl #[.int .u32 x5_1, .int .u8 (rd l1 x12_1)] rfl (by (try simp only [List.map_toArray, List.map_cons, List.map_nil]); first | done | rfl | (simp only [List.length_drop, List.length_take]; rfl)) ?_; (with_reducible refine (check_take.calls x5_1 (rd l1 x12_1) t102 _ A6.out ?tabh1).mono ?_); (case tabh1 => repeat (first | exact HTAB.out | exact TabAt.below HTAB.out HB.out | apply TabAt.drewN | apply TabAt.drew | apply TabAt.alloc)); rintro e w' ⟨rfl, ⟨nd, rfl⟩⟩; refine ⟨_, rfl, ?_⟩))
            go_roundg k1
            case measure => have := HK1.out; omega
            case rel => exact ⟨(t102), (wrap64 (x12_1 + 1)), (by first | rfl | (simp; done) | (simp [*]; done)), (by first | rfl | (simp; done) | (simp [*]; done)), H', ⟨by have := HK1.out; omega⟩, by repeat (first | exact Drawn0.refl _ | apply Drawn0.step)⟩
          · rw [if_neg c5] at H
            exact absurd H (by simp)
        · rw [if_neg c4] at H
          exact absurd H (by simp)
      · rw [if_neg c3] at H
        have c3b0 : decide (x12_1 < (l1.length : Int)) = false := decide_eq_false c3
        clear c3
        obtain rfl := Option.some.inj H
        go_wp2
        go_ret
        exact ⟨by first | rfl | (simp; done) | (simp [*]; done), by repeat (first | exact Drawn0.refl _ | apply Drawn0.step)⟩

end Go.Proofs.YtmpkigambfghgaaDoor.G

/- Printed by the session's program over the kit's print, out of the translation: functions as plain Lean functions, and the proofs that the calls come to them. -/
namespace Go.Proofs.YtmpkigambfghgaaDoor.G
open Go.RowKit Go.Proofs.YtmpkigambfghgaaDoorW.PrintWords Go.Proofs.YtmpkigambfghgaaDoorW.PrintLast Go.Proofs.YtmpkigambfghgaaDoorW.PrintMore
attribute [local go_sem] max2_int min2_int max_two min_two max_three min_three max_four min_four   -- for this text's walks alone
set_option linter.unusedVariables false
set_option linter.unusedSimpArgs false

/-! ### check_Sum: function 43 -/
def check_Sum.f (k : Nat) (l0 : List Int) : Option (Int) := (check_Extend.f k 0 l0).bind fun t103 => (some t103)
theorem check_Sum.mono : ∀ a0 k, LeO (check_Sum.f k a0) (check_Sum.f (k + 1) a0) := by
  intro a0 k
  unfold check_Sum.f
  repeat' first
      | (with_reducible exact check_Extend.mono _ _ _)
      | (with_reducible exact LeO.refl _)
      | (with_reducible exact LeO.none _)
      | (with_reducible refine LeO.ite ?_ ?_)
      | (with_reducible refine LeO.bind ?_ (fun _ => ?_))
      | exact check_Extend.mono _ _ _
      | exact LeO.none _
      | refine LeO.ite ?_ ?_
      | refine LeO.bind ?_ (fun _ => ?_)
set_option maxHeartbeats 8000000 in
set_option maxRecDepth 100000 in
theorem check_Sum.calls (k : Nat) (A0 : Option Addr) (c0 : Nat) (l0 : List Int) (r : Int) (w : World) (hr0 : Kd.C (Kd.int .u8) w A0 l0.length l0) (hc0 : l0.length ≤ c0) (h : check_Sum.f k l0 = some r) (hTab : TabAt w) :
    Calls Tryd.prog 43 #[.slice A0 l0.length c0] w fun e w' => e = .returned (.int .u32 r) ∧ Drawn0 w w' := by
  have HTAB := Aside0.mk hTab
  clear hTab
  have HR0 := Aside0.mk hr0
  have HC0 := Aside0.mk hc0
  clear hr0 hc0
  have H : ((check_Extend.f k 0 l0).bind fun t103 => (some t103)) = some r := h
  clear h
  replace H := Option.bind_eq_some_iff.mp H
  obtain ⟨t103, A20, H⟩ := H
  replace H : (some t103) = some r := H
  have A2 := Aside0.mk A20
  clear A20
  obtain rfl := Option.some.inj H
  go_enter Tryd.func43, Tryd.ntmps43
  go_wp2_with (first | ((with_reducible refine gate_callee (f := 42) rfl ?_); refine goesL_ (some 4) rfl rfl Tryd.func42 (by kernel_rfl) rfl #[.int .u32 0, .slice A0 l0.length c0] rfl (by (try simp only [List.map_toArray, List.map_cons, List.map_nil]); first | done | rfl | (simp only [List.length_drop, List.length_take]; rfl)) ?_; (with_reducible refine (check_Extend.calls k 0 _ _ l0 t103 _ ?side1 ?side2 A2.out ?tabh1).mono ?_); (case tabh1 => repeat (first | exact HTAB.out | exact TabAt.below HTAB.out HB.out | apply TabAt.drewN | apply TabAt.drew | apply TabAt.alloc)); (case side1 => repeat (first | exact HR0.out | (with_reducible refine Kd.C_alloc ?_ _) | (with_reducible refine Kd.C_drewN ?_ _) | (with_reducible refine Kd.C_drew ?_))); (case side2 => exact HC0.out); rintro e w' ⟨rfl, ⟨nd, rfl⟩⟩; refine ⟨_, rfl, ?_⟩))
  go_ret
  exact ⟨by first | rfl | (simp; done) | (simp [*]; done), by repeat (first | exact Drawn0.refl _ | apply Drawn0.step)⟩

end Go.Proofs.YtmpkigambfghgaaDoor.G

/- Printed by the session's program over the kit's print, out of the translation: functions as plain Lean functions, and the proofs that the calls come to them. -/
namespace Go.Proofs.YtmpkigambfghgaaDoor.G
open Go.RowKit Go.Proofs.YtmpkigambfghgaaDoorW.PrintWords Go.Proofs.YtmpkigambfghgaaDoorW.PrintLast Go.Proofs.YtmpkigambfghgaaDoorW.PrintMore
attribute [local go_sem] max2_int min2_int max_two min_two max_three min_three max_four min_four   -- for this text's walks alone
set_option linter.unusedVariables false
set_option linter.unusedSimpArgs false

/-! ### check_Mask: function 41 -/
def check_Mask.f (a0 : Int) : Option (Int) := some (((Go.bits .or .u32 (a0 / 32768) ((a0 * 131072) % 4294967296)) + 2726488792) % 4294967296)
set_option maxHeartbeats 8000000 in
set_option maxRecDepth 100000 in
theorem check_Mask.calls (a0 : Int) (r : Int) (w : World) (h : check_Mask.f a0 = some r) :
    Calls Tryd.prog 41 #[.int .u32 a0] w fun e w' => e = .returned (.int .u32 r) ∧ Drawn0 w w' := by
  have H : (some (((Go.bits .or .u32 (a0 / 32768) ((a0 * 131072) % 4294967296)) + 2726488792) % 4294967296)) = some r := h
  clear h
  obtain rfl := Option.some.inj H
  go_enter Tryd.func41, Tryd.ntmps41
  go_wp2
  go_ret
  exact ⟨by first | rfl | (simp; done) | (simp [*]; done), by repeat (first | exact Drawn0.refl _ | apply Drawn0.step)⟩

end Go.Proofs.YtmpkigambfghgaaDoor.G

/- Printed by the session's program over the kit's print, out of the translation: functions as plain Lean functions, and the proofs that the calls come to them. -/
namespace Go.Proofs.YtmpkigambfghgaaDoor.G
open Go.RowKit Go.Proofs.YtmpkigambfghgaaDoorW.PrintWords Go.Proofs.YtmpkigambfghgaaDoorW.PrintLast Go.Proofs.YtmpkigambfghgaaDoorW.PrintMore
attribute [local go_sem] max2_int min2_int max_two min_two max_three min_three max_four min_four   -- for this text's walks alone
set_option linter.unusedVariables false
set_option linter.unusedSimpArgs false

/-! ### journal_sumOf: function 30 -/
def journal_sumOf.f (k : Nat) (a0 : Int) (l1 : List Int) : Option (Int) := (check_Sum.f k (([a0] : List Int))).bind fun t107 => ((check_Extend.f k t107 l1).bind fun t108 => ((check_Mask.f t108).bind fun t109 => (some t109)))
theorem journal_sumOf.mono : ∀ a0 a1 k, LeO (journal_sumOf.f k a0 a1) (journal_sumOf.f (k + 1) a0 a1) := by
  intro a0 a1 k
  unfold journal_sumOf.f
  repeat' first
      | (with_reducible exact check_Extend.mono _ _ _)
      | (with_reducible exact check_Sum.mono _ _)
      | (with_reducible exact LeO.refl _)
      | (with_reducible exact LeO.none _)
      | (with_reducible refine LeO.ite ?_ ?_)
      | (with_reducible refine LeO.bind ?_ (fun _ => ?_))
      | exact check_Extend.mono _ _ _
      | exact check_Sum.mono _ _
      | exact LeO.none _
      | refine LeO.ite ?_ ?_
      | refine LeO.bind ?_ (fun _ => ?_)
set_option maxHeartbeats 8000000 in
set_option maxRecDepth 100000 in
theorem journal_sumOf.calls (k : Nat) (a0 : Int) (A1 : Option Addr) (c1 : Nat) (l1 : List Int) (r : Int) (w : World) (hr1 : Kd.C (Kd.int .u8) w A1 l1.length l1) (hc1 : l1.length ≤ c1) (h : journal_sumOf.f k a0 l1 = some r) (hTab : TabAt w) :
    Calls Tryd.prog 30 #[.int .u8 a0, .slice A1 l1.length c1] w fun e w' => e = .returned (.int .u32 r) ∧ Below w.heap.size w w' := by
  have HTAB := Aside0.mk hTab
  clear hTab
  have HR1 := Aside0.mk hr1
  have HC1 := Aside0.mk hc1
  clear hr1 hc1
  have HB := Aside0.mk (Below.refl w.heap.size w)
  have H : ((check_Sum.f k (([a0] : List Int))).bind fun t107 => ((check_Extend.f k t107 l1).bind fun t108 => ((check_Mask.f t108).bind fun t109 => (some t109)))) = some r := h
  clear h
  obtain ⟨y104, hy104⟩ : ∃ y_ : List Int, y_ = (([a0] : List Int)) := ⟨_, rfl⟩
  replace H : ((check_Sum.f k y104).bind fun t107 => ((check_Extend.f k t107 l1).bind fun t108 => ((check_Mask.f t108).bind fun t109 => (some t109)))) = some r := by first | (rw [hy104]; with_reducible exact H) | (have H2_ := (Option.bind_some _ _).symm.trans H; rw [hy104]; with_reducible exact H2_) | (have H2_ := (Option.bind_some _ _).symm.trans H; with_reducible exact H2_) | with_reducible exact H | (rw [hy104]; exact H) | exact H
  have Ny104 := Aside0.mk hy104
  clear hy104
  replace H := Option.bind_eq_some_iff.mp H
  obtain ⟨t107, A30, H⟩ := H
  replace H : ((check_Extend.f k t107 l1).bind fun t108 => ((check_Mask.f t108).bind fun t109 => (some t109))) = some r := H
  have A3 := Aside0.mk A30
  clear A30
  replace H := Option.bind_eq_some_iff.mp H
  obtain ⟨t108, A40, H⟩ := H
  replace H : ((check_Mask.f t108).bind fun t109 => (some t109)) = some r := H
  have A4 := Aside0.mk A40
  clear A40
  replace H := Option.bind_eq_some_iff.mp H
  obtain ⟨t109, A50, H⟩ := H
  replace H : (some t109) = some r := H
  have A5 := Aside0.mk A50
  clear A50
  obtain rfl := Option.some.inj H
  go_enter Tryd.func30, Tryd.ntmps30
  go_wp2_with (first | ((with_reducible refine gate_dst (N := 6) rfl ?_); refine Kd.R_lit (Kd.int .u8) _ 5 ?hg (N := 6) ?hd (xs := ([a0] : List Int)) (inner := [.int .u8 a0]) (ok := fun _ => True) (okp := fun _ => True) ?hr ?hp (fun _ hk => hk) trivial (Below.refl _ _) (Nat.le_refl _) (by simp) ?_; (case hd => rfl); (case hg => rfl); (case hr => first | (go_simp; done) | (go_simp; rfl)); (case hp => exact (Reps.one (show Kd.M (Kd.int .u8) _ _ _ a0 [.int .u8 a0] from rfl) (Reps.none _ _))); intro v105 w6 ho7 hb hg_ hnew_; clear hg_ hnew_; (first | rw [← Ny104.out] at ho7 | (simp only [Int.reduceToNat] at ho7; rw [← Ny104.out] at ho7)); have n0_ := Aside0.mk (Kd.R_lower ho7 (below_size (by repeat (first | (with_reducible first | exact HB.out | apply below_alloc | apply pw_below_drewN | apply below_drew1) | exact HB.out)))); have n1_ := Aside0.mk (below_step (by repeat (first | (with_reducible first | exact HB.out | apply below_alloc | apply pw_below_drewN | apply below_drew1) | exact HB.out)) hb); clear HB; have HO106 := n0_; have HB := n1_; clear n0_ n1_; clear hb ho7; obtain ⟨Ao8, co8, eo8⟩ := Kd.R_slice HO106.out; subst eo8) | ((with_reducible refine gate_callee (f := 43) rfl ?_); refine goesL_ (some 7) rfl rfl Tryd.func43 (by kernel_rfl) rfl #[.slice Ao8 y104.length co8] rfl (by (try simp only [List.map_toArray, List.map_cons, List.map_nil]); first | done | rfl | (simp only [List.length_drop, List.length_take]; rfl)) ?_; (with_reducible refine (check_Sum.calls k _ _ y104 t107 _ ?side1 ?side2 A3.out ?tabh2).mono ?_); (case tabh2 => repeat (first | exact HTAB.out | exact TabAt.below HTAB.out HB.out | apply TabAt.drewN | apply TabAt.drew | apply TabAt.alloc)); (case side1 => repeat (first | exact (Kd.R_reads' HO106.out).2.2 | (with_reducible refine Kd.C_alloc ?_ _) | (with_reducible refine Kd.C_drewN ?_ _) | (with_reducible refine Kd.C_drew ?_))); (case side2 => exact (Kd.R_reads' HO106.out).2.1); rintro e w' ⟨rfl, ⟨nd, rfl⟩⟩; refine ⟨_, rfl, ?_⟩) | ((with_reducible refine gate_callee (f := 42) rfl ?_); refine goesL_ (some 9) rfl rfl Tryd.func42 (by kernel_rfl) rfl #[.int .u32 t107, .slice A1 l1.length c1] rfl (by (try simp only [List.map_toArray, List.map_cons, List.map_nil]); first | done | rfl | (simp only [List.length_drop, List.length_take]; rfl)) ?_; (with_reducible refine (check_Extend.calls k t107 _ _ l1 t108 _ ?side1 ?side2 A4.out ?tabh1).mono ?_); (case tabh1 => repeat (first | exact HTAB.out | exact TabAt.below HTAB.out HB.out | apply TabAt.drewN | apply TabAt.drew | apply TabAt.alloc)); (case side1 => repeat (first | exact (Kd.C_below HR1.out (by repeat (first | (with_reducible first | exact HB.out | apply below_alloc | apply pw_below_drewN | apply below_drew1) | exact HB.out))) | (with_reducible refine Kd.C_alloc ?_ _) | (with_reducible refine Kd.C_drewN ?_ _) | (with_reducible refine Kd.C_drew ?_))); (case side2 => exact HC1.out); rintro e w' ⟨rfl, ⟨nd, rfl⟩⟩; refine ⟨_, rfl, ?_⟩) | ((with_reducible refine gate_callee (f := 41) rfl ?_); refine goesL_ (some 10) rfl rfl Tryd.func41 (by kernel_rfl) rfl #[.int .u32 t108] rfl (by (try simp only [List.map_toArray, List.map_cons, List.map_nil]); first | done | rfl | (simp only [List.length_drop, List.length_take]; rfl)) ?_; (with_reducible refine (check_Mask.calls t108 t109 _ A5.out).mono ?_); rintro e w' ⟨rfl, ⟨nd, rfl⟩⟩; refine ⟨_, rfl, ?_⟩))
  go_ret
  exact ⟨by first | rfl | (simp [errW_none, errW_some] <;> rfl) | (simp [*, errW_none, errW_some] <;> rfl), by repeat (first | (with_reducible first | exact HB.out | apply below_alloc | apply pw_below_drewN | apply below_drew1) | exact HB.out)⟩

end Go.Proofs.YtmpkigambfghgaaDoor.G

/- Printed by the session's program over the kit's print, out of the translation: functions as plain Lean functions, and the proofs that the calls come to them. -/
namespace Go.Proofs.YtmpkigambfghgaaDoor.G
open Go.RowKit Go.Proofs.YtmpkigambfghgaaDoorW.PrintWords Go.Proofs.YtmpkigambfghgaaDoorW.PrintLast Go.Proofs.YtmpkigambfghgaaDoorW.PrintMore
attribute [local go_sem] max2_int min2_int max_two min_two max_three min_three max_four min_four   -- for this text's walks alone
set_option linter.unusedVariables false
set_option linter.unusedSimpArgs false

/-! ### moraineref02_take: function 49 -/
def moraineref02_take.f (a0 : Int) (a1 : Int) : Option (Int) := if (Go.bits .and .u32 (Go.bits .xor .u32 a0 a1) 1) = 1 then (some (Go.bits .xor .u32 (a0 / 2) 2197175160)) else (some (a0 / 2))
set_option maxHeartbeats 8000000 in
set_option maxRecDepth 100000 in
theorem moraineref02_take.calls (a0 : Int) (a1 : Int) (r : Int) (w : World) (h : moraineref02_take.f a0 a1 = some r) :
    Calls Tryd.prog 49 #[.int .u32 a0, .int .u32 a1] w fun e w' => e = .returned (.int .u32 r) ∧ Drawn0 w w' := by
  have H : (if (Go.bits .and .u32 (Go.bits .xor .u32 a0 a1) 1) = 1 then (some (Go.bits .xor .u32 (a0 / 2) 2197175160)) else (some (a0 / 2))) = some r := h
  clear h
  by_cases c3 : (Go.bits .and .u32 (Go.bits .xor .u32 a0 a1) 1) = 1
  · rw [if_pos c3] at H
    have c3b0 : ((Go.bits .and .u32 (Go.bits .xor .u32 a0 a1) 1) == 1) = true := beq_iff_eq.mpr c3
    have c3b1 : ((Go.bits .and .u32 (Go.bits .xor .u32 a0 a1) 1) != 1) = false := bne_eq_false_iff_eq.mpr c3
    clear c3
    obtain rfl := Option.some.inj H
    go_enter Tryd.func49, Tryd.ntmps49
    go_wp2
    go_ret
    exact ⟨by first | rfl | (simp; done) | (simp [*]; done), by repeat (first | exact Drawn0.refl _ | apply Drawn0.step)⟩
  · rw [if_neg c3] at H
    have c3b0 : ((Go.bits .and .u32 (Go.bits .xor .u32 a0 a1) 1) == 1) = false := beq_eq_false_iff_ne.mpr c3
    have c3b1 : ((Go.bits .and .u32 (Go.bits .xor .u32 a0 a1) 1) != 1) = true := bne_iff_ne.mpr c3
    obtain rfl := Option.some.inj H
    go_enter Tryd.func49, Tryd.ntmps49
    go_wp2
    go_ret
    exact ⟨by first | rfl | (simp; done) | (simp [*]; done), by repeat (first | exact Drawn0.refl _ | apply Drawn0.step)⟩

end Go.Proofs.YtmpkigambfghgaaDoor.G

/- Printed by the session's program over the kit's print, out of the translation: functions as plain Lean functions, and the proofs that the calls come to them. -/
namespace Go.Proofs.YtmpkigambfghgaaDoor.G
open Go.RowKit Go.Proofs.YtmpkigambfghgaaDoorW.PrintWords Go.Proofs.YtmpkigambfghgaaDoorW.PrintLast Go.Proofs.YtmpkigambfghgaaDoorW.PrintMore
attribute [local go_sem] max2_int min2_int max_two min_two max_three min_three max_four min_four   -- for this text's walks alone
set_option linter.unusedVariables false
set_option linter.unusedSimpArgs false

/-! ### moraineref02_over: function 48 -/
mutual
def moraineref02_over.l0 : Nat → Int → List Int → Int → Option (Int)
  | 0, _, _, _ => none
  | k + 1, x0, x1, x5 => if x5 < (x1.length : Int) then (moraineref02_over.l1 k x0 x1 x5 0) else (some x0)
def moraineref02_over.l1 : Nat → Int → List Int → Int → Int → Option (Int)
  | 0, _, _, _, _ => none
  | k + 1, x0, x1, x5, x6 => if x6 < 8 then (if 0 ≤ x5 then (if x5 < (x1.length : Int) then (if 0 ≤ x6 then ((moraineref02_take.f x0 (shr .u32 ((rd x1 x5) % 4294967296) x6)).bind fun t160 => (moraineref02_over.l1 k t160 x1 x5 (wrap64 (x6 + 1)))) else (none)) else (none)) else (none)) else (moraineref02_over.l0 k x0 x1 (wrap64 (x5 + 1)))
end
def moraineref02_over.f (k : Nat) (a0 : Int) (l1 : List Int) : Option (Int) := moraineref02_over.l0 k a0 l1 0
theorem moraineref02_over.mono_l : ∀ k, (∀ y0 y1 y2, LeO (moraineref02_over.l0 k y0 y1 y2) (moraineref02_over.l0 (k + 1) y0 y1 y2)) ∧ (∀ y0 y1 y2 y3, LeO (moraineref02_over.l1 k y0 y1 y2 y3) (moraineref02_over.l1 (k + 1) y0 y1 y2 y3))
  | 0 => ⟨fun _ _ _ r h => by simp [moraineref02_over.l0] at h, fun _ _ _ _ r h => by simp [moraineref02_over.l1] at h⟩
  | k + 1 => by
    obtain ⟨ih0, ih1⟩ := moraineref02_over.mono_l k
    refine ⟨?_, ?_⟩
    · intro y0 y1 y2
      unfold moraineref02_over.l0
      repeat' first
      | (with_reducible exact ih0 _ _ _)
      | (with_reducible exact ih1 _ _ _ _)
      | (with_reducible exact LeO.refl _)
      | (with_reducible exact LeO.none _)
      | (with_reducible refine LeO.ite ?_ ?_)
      | (with_reducible refine LeO.bind ?_ (fun _ => ?_))
      | exact ih0 _ _ _
      | exact ih1 _ _ _ _
      | exact LeO.none _
      | refine LeO.ite ?_ ?_
      | refine LeO.bind ?_ (fun _ => ?_)
    · intro y0 y1 y2 y3
      unfold moraineref02_over.l1
      repeat' first
      | (with_reducible exact ih0 _ _ _)
      | (with_reducible exact ih1 _ _ _ _)
      | (with_reducible exact LeO.refl _)
      | (with_reducible exact LeO.none _)
      | (with_reducible refine LeO.ite ?_ ?_)
      | (with_reducible refine LeO.bind ?_ (fun _ => ?_))
      | exact ih0 _ _ _
      | exact ih1 _ _ _ _
      | exact LeO.none _
      | refine LeO.ite ?_ ?_
      | refine LeO.bind ?_ (fun _ => ?_)
theorem moraineref02_over.mono : ∀ a0 a1 k, LeO (moraineref02_over.f k a0 a1) (moraineref02_over.f (k + 1) a0 a1) := by
  intro a0 a1 k
  obtain ⟨ih0, ih1⟩ := moraineref02_over.mono_l k
  unfold moraineref02_over.f
  repeat' first
      | (with_reducible exact ih0 _ _ _)
      | (with_reducible exact ih1 _ _ _ _)
      | (with_reducible exact LeO.refl _)
      | (with_reducible exact LeO.none _)
      | (with_reducible refine LeO.ite ?_ ?_)
      | (with_reducible refine LeO.bind ?_ (fun _ => ?_))
      | exact ih0 _ _ _
      | exact ih1 _ _ _ _
      | exact LeO.none _
      | refine LeO.ite ?_ ?_
      | refine LeO.bind ?_ (fun _ => ?_)
set_option maxHeartbeats 8000000 in
set_option maxRecDepth 100000 in
theorem moraineref02_over.calls (k : Nat) (a0 : Int) (A1 : Option Addr) (c1 : Nat) (l1 : List Int) (r : Int) (w : World) (hr1 : Kd.C (Kd.int .u8) w A1 l1.length l1) (hc1 : l1.length ≤ c1) (h : moraineref02_over.f k a0 l1 = some r) :
    Calls Tryd.prog 48 #[.int .u32 a0, .slice A1 l1.length c1] w fun e w' => e = .returned (.int .u32 r) ∧ Drawn0 w w' := by
  have HR1 := Aside0.mk hr1
  have HC1 := Aside0.mk hc1
  clear hr1 hc1
  have H : (moraineref02_over.l0 k a0 l1 0) = some r := h
  clear h
  have H' := Aside0.mk H
  clear H
  go_enter Tryd.func48, Tryd.ntmps48
  go_wp2
  go_loopg [0, 5] k (fun kq v0 v5 w' => ∃ (x0_1 : Int) (x5_1 : Int), v0 = .int .u32 x0_1 ∧ v5 = .int .i64 x5_1 ∧ Aside0 (moraineref02_over.l0 kq x0_1 l1 x5_1 = some r) ∧ Aside0 (kq ≤ k) ∧ Drawn0 w w')
  case atStart => exact ⟨(a0), (0), (by first | rfl | (simp; done) | (simp [*]; done)), (by first | rfl | (simp; done) | (simp [*]; done)), H', ⟨Nat.le_refl _⟩, by repeat (first | exact Drawn0.refl _ | apply Drawn0.step)⟩
  case round =>
    clear H'
    try clear c1
    try clear p2
    obtain ⟨x0_1, x5_1, rfl, rfl, HA, HK1, ⟨m1, rfl⟩⟩ := hrel
    cases gk with
    | zero => exact absurd HA.out (by simp [moraineref02_over.l0])
    | succ k1 =>
      have H := HA.out
      clear HA
      simp only [moraineref02_over.l0] at H
      by_cases c3 : x5_1 < (l1.length : Int)
      · rw [if_pos c3] at H
        have c3b0 : decide (x5_1 < (l1.length : Int)) = true := decide_eq_true c3
        clear c3
        have H' := Aside0.mk H
        clear H
        go_wp2
        go_loopg [0, 6] k1 (fun kq v0 v6 w' => ∃ (x0_2 : Int) (x6_2 : Int), v0 = .int .u32 x0_2 ∧ v6 = .int .i64 x6_2 ∧ Aside0 (moraineref02_over.l1 kq x0_2 l1 x5_1 x6_2 = some r) ∧ Aside0 (kq ≤ k1) ∧ Drawn0 w w')
        case atStart => exact ⟨(x0_1), (0), (by first | rfl | (simp; done) | (simp [*]; done)), (by first | rfl | (simp; done) | (simp [*]; done)), H', ⟨Nat.le_refl _⟩, by repeat (first | exact Drawn0.refl _ | apply Drawn0.step)⟩
        case round =>
          clear H'
          try clear c1
          try clear p2
          try clear c3
          try clear c3b0
          try clear p2
          obtain ⟨x0_2, x6_2, rfl, rfl, HA, HK2, ⟨m2, rfl⟩⟩ := hrel
          cases gk with
          | zero => exact absurd HA.out (by simp [moraineref02_over.l1])
          | succ k2 =>
            have H := HA.out
            clear HA
            simp only [moraineref02_over.l1] at H
            by_cases c4 : x6_2 < 8
            · rw [if_pos c4] at H
              have c4b0 : decide (x6_2 < 8) = true := decide_eq_true c4
              clear c4
              by_cases c5 : 0 ≤ x5_1
              · rw [if_pos c5] at H
                have c5b0 : decide (0 ≤ x5_1) = true := decide_eq_true c5
                clear c5
                by_cases c6 : x5_1 < (l1.length : Int)
                · rw [if_pos c6] at H
                  have c6b0 : decide (x5_1 < (l1.length : Int)) = true := decide_eq_true c6
                  clear c6
                  by_cases c7 : 0 ≤ x6_2
                  · rw [if_pos c7] at H
                    have c7b0 := eq_true c7
                    have c7b1 : decide (0 ≤ x6_2) = true := decide_eq_true c7
                    clear c7
                    obtain ⟨ji8, hji8⟩ : ∃ j_ : Int, (shr .u32 ((rd l1 x5_1) % 4294967296) x6_2) = j_ := ⟨_, rfl⟩
                    replace H : ((moraineref02_take.f x0_2 (ji8)).bind fun t160 => (moraineref02_over.l1 k2 t160 l1 x5_1 (wrap64 (x6_2 + 1)))) = some r := by first | (rw [hji8] at H; exact H) | (simp only [hji8] at H ⊢; exact H)
                    have hji8_ : (((rd l1 x5_1) % 4294967296) / 2 ^ min x6_2.toNat 32) = ji8 := hji8
                    have hji8z : x6_2 ≤ 32 → (((rd l1 x5_1) % 4294967296) / 2 ^ x6_2.toNat) = ji8 := shr_small hji8
                    replace H := Option.bind_eq_some_iff.mp H
                    obtain ⟨t160, A90, H⟩ := H
                    replace H : (moraineref02_over.l1 k2 t160 l1 x5_1 (wrap64 (x6_2 + 1))) = some r := H
                    have A9 := Aside0.mk A90
                    clear A90
                    have H' := Aside0.mk H
                    clear H
                    have p159 : 0 ≤ (x5_1 : Int) := of_decide_eq_true (by first | (with_reducible assumption) | assumption)
                    have q159 : x5_1 < (l1.length : Int) := of_decide_eq_true (by first | (with_reducible assumption) | assumption)
                    obtain ⟨ad159, e159, hx159_0⟩ := Kd.at_int HR1.out x5_1 p159 q159
                    cases e159
                    replace p159 := eq_true p159
                    replace q159 := eq_true q159
                    go_wp2_with (first | ((with_reducible refine gate_callee (f := 49) rfl ?_); refine goesL_ (some 25) rfl rfl Tryd.func49 (by kernel_rfl) rfl #[.int .u32 x0_2, .int .u32 ji8] rfl (by (try simp only [List.map_toArray, List.map_cons, List.map_nil]); first | done | (simp only [hji8]; rfl) | rfl | (simp only [List.length_drop, List.length_take]; rfl)) ?_; (with_reducible refine (moraineref02_take.calls x0_2 ji8 t160 _ A9.out).mono ?_); rintro e w' ⟨rfl, ⟨nd, rfl⟩⟩; refine ⟨_, rfl, ?_⟩))
                    go_roundg k2
                    case measure => have := HK1.out; have := HK2.out; omega
                    case rel => exact ⟨(t160), (wrap64 (x6_2 + 1)), (by first | rfl | (simp; done) | (simp [*]; done)), (by first | rfl | (simp; done) | (simp [*]; done)), H', ⟨by have := HK1.out; have := HK2.out; omega⟩, by repeat (first | exact Drawn0.refl _ | apply Drawn0.step)⟩
                  · rw [if_neg c7] at H
                    exact absurd H (by simp)
                · rw [if_neg c6] at H
                  exact absurd H (by simp)
              · rw [if_neg c5] at H
                exact absurd H (by simp)
            · rw [if_neg c4] at H
              have c4b0 : decide (x6_2 < 8) = false := decide_eq_false c4
              clear c4
              have H' := Aside0.mk H
              clear H
              go_wp2
              go_roundg k2
              case measure => have := HK1.out; have := HK2.out; omega
              case rel => exact ⟨(x0_2), (wrap64 (x5_1 + 1)), (by first | rfl | (simp; done) | (simp [*]; done)), (by first | rfl | (simp; done) | (simp [*]; done)), H', ⟨by have := HK1.out; have := HK2.out; omega⟩, by repeat (first | exact Drawn0.refl _ | apply Drawn0.step)⟩
      · rw [if_neg c3] at H
        have c3b0 : decide (x5_1 < (l1.length : Int)) = false := decide_eq_false c3
        clear c3
        obtain rfl := Option.some.inj H
        go_wp2
        go_ret
        exact ⟨by first | rfl | (simp; done) | (simp [*]; done), by repeat (first | exact Drawn0.refl _ | apply Drawn0.step)⟩

end Go.Proofs.YtmpkigambfghgaaDoor.G

/- Printed by the session's program over the kit's print, out of the translation: functions as plain Lean functions, and the proofs that the calls come to them. -/
namespace Go.Proofs.YtmpkigambfghgaaDoor.G
open Go.RowKit Go.Proofs.YtmpkigambfghgaaDoorW.PrintWords Go.Proofs.YtmpkigambfghgaaDoorW.PrintLast Go.Proofs.YtmpkigambfghgaaDoorW.PrintMore
attribute [local go_sem] max2_int min2_int max_two min_two max_three min_three max_four min_four   -- for this text's walks alone
set_option linter.unusedVariables false
set_option linter.unusedSimpArgs false

/-! ### moraineref02_Extend: function 46 -/
def moraineref02_Extend.f (k : Nat) (a0 : Int) (l1 : List Int) : Option (Int) := (moraineref02_over.f k (Go.bits .xor .u32 4294967295 a0) l1).bind fun t161 => (some (Go.bits .xor .u32 4294967295 t161))
theorem moraineref02_Extend.mono : ∀ a0 a1 k, LeO (moraineref02_Extend.f k a0 a1) (moraineref02_Extend.f (k + 1) a0 a1) := by
  intro a0 a1 k
  unfold moraineref02_Extend.f
  repeat' first
      | (with_reducible exact moraineref02_over.mono _ _ _)
      | (with_reducible exact LeO.refl _)
      | (with_reducible exact LeO.none _)
      | (with_reducible refine LeO.ite ?_ ?_)
      | (with_reducible refine LeO.bind ?_ (fun _ => ?_))
      | exact moraineref02_over.mono _ _ _
      | exact LeO.none _
      | refine LeO.ite ?_ ?_
      | refine LeO.bind ?_ (fun _ => ?_)
set_option maxHeartbeats 8000000 in
set_option maxRecDepth 100000 in
theorem moraineref02_Extend.calls (k : Nat) (a0 : Int) (A1 : Option Addr) (c1 : Nat) (l1 : List Int) (r : Int) (w : World) (hr1 : Kd.C (Kd.int .u8) w A1 l1.length l1) (hc1 : l1.length ≤ c1) (h : moraineref02_Extend.f k a0 l1 = some r) :
    Calls Tryd.prog 46 #[.int .u32 a0, .slice A1 l1.length c1] w fun e w' => e = .returned (.int .u32 r) ∧ Drawn0 w w' := by
  have HR1 := Aside0.mk hr1
  have HC1 := Aside0.mk hc1
  clear hr1 hc1
  have H : ((moraineref02_over.f k (Go.bits .xor .u32 4294967295 a0) l1).bind fun t161 => (some (Go.bits .xor .u32 4294967295 t161))) = some r := h
  clear h
  replace H := Option.bind_eq_some_iff.mp H
  obtain ⟨t161, A30, H⟩ := H
  replace H : (some (Go.bits .xor .u32 4294967295 t161)) = some r := H
  have A3 := Aside0.mk A30
  clear A30
  obtain rfl := Option.some.inj H
  go_enter Tryd.func46, Tryd.ntmps46
  go_wp2_with (first | ((with_reducible refine gate_callee (f := 48) rfl ?_); refine goesL_ (some 8) rfl rfl Tryd.func48 (by kernel_rfl) rfl #[.int .u32 (Go.bits .xor .u32 4294967295 a0), .slice A1 l1.length c1] rfl (by (try simp only [List.map_toArray, List.map_cons, List.map_nil]); first | done | rfl | (simp only [List.length_drop, List.length_take]; rfl)) ?_; (with_reducible refine (moraineref02_over.calls k (Go.bits .xor .u32 4294967295 a0) _ _ l1 t161 _ ?side1 ?side2 A3.out).mono ?_); (case side1 => repeat (first | exact HR1.out | (with_reducible refine Kd.C_alloc ?_ _) | (with_reducible refine Kd.C_drewN ?_ _) | (with_reducible refine Kd.C_drew ?_))); (case side2 => exact HC1.out); rintro e w' ⟨rfl, ⟨nd, rfl⟩⟩; refine ⟨_, rfl, ?_⟩))
  go_ret
  exact ⟨by first | rfl | (simp; done) | (simp [*]; done), by repeat (first | exact Drawn0.refl _ | apply Drawn0.step)⟩

end Go.Proofs.YtmpkigambfghgaaDoor.G

/- Printed by the session's program over the kit's print, out of the translation: functions as plain Lean functions, and the proofs that the calls come to them. -/
namespace Go.Proofs.YtmpkigambfghgaaDoor.G
open Go.RowKit Go.Proofs.YtmpkigambfghgaaDoorW.PrintWords Go.Proofs.YtmpkigambfghgaaDoorW.PrintLast Go.Proofs.YtmpkigambfghgaaDoorW.PrintMore
attribute [local go_sem] max2_int min2_int max_two min_two max_three min_three max_four min_four   -- for this text's walks alone
set_option linter.unusedVariables false
set_option linter.unusedSimpArgs false

/-! ### moraineref02_Sum: function 40 -/
def moraineref02_Sum.f (k : Nat) (l0 : List Int) : Option (Int) := (moraineref02_Extend.f k 0 l0).bind fun t162 => (some t162)
theorem moraineref02_Sum.mono : ∀ a0 k, LeO (moraineref02_Sum.f k a0) (moraineref02_Sum.f (k + 1) a0) := by
  intro a0 k
  unfold moraineref02_Sum.f
  repeat' first
      | (with_reducible exact moraineref02_Extend.mono _ _ _)
      | (with_reducible exact LeO.refl _)
      | (with_reducible exact LeO.none _)
      | (with_reducible refine LeO.ite ?_ ?_)
      | (with_reducible refine LeO.bind ?_ (fun _ => ?_))
      | exact moraineref02_Extend.mono _ _ _
      | exact LeO.none _
      | refine LeO.ite ?_ ?_
      | refine LeO.bind ?_ (fun _ => ?_)
set_option maxHeartbeats 8000000 in
set_option maxRecDepth 100000 in
theorem moraineref02_Sum.calls (k : Nat) (A0 : Option Addr) (c0 : Nat) (l0 : List Int) (r : Int) (w : World) (hr0 : Kd.C (Kd.int .u8) w A0 l0.length l0) (hc0 : l0.length ≤ c0) (h : moraineref02_Sum.f k l0 = some r) :
    Calls Tryd.prog 40 #[.slice A0 l0.length c0] w fun e w' => e = .returned (.int .u32 r) ∧ Drawn0 w w' := by
  have HR0 := Aside0.mk hr0
  have HC0 := Aside0.mk hc0
  clear hr0 hc0
  have H : ((moraineref02_Extend.f k 0 l0).bind fun t162 => (some t162)) = some r := h
  clear h
  replace H := Option.bind_eq_some_iff.mp H
  obtain ⟨t162, A20, H⟩ := H
  replace H : (some t162) = some r := H
  have A2 := Aside0.mk A20
  clear A20
  obtain rfl := Option.some.inj H
  go_enter Tryd.func40, Tryd.ntmps40
  go_wp2_with (first | ((with_reducible refine gate_callee (f := 46) rfl ?_); refine goesL_ (some 4) rfl rfl Tryd.func46 (by kernel_rfl) rfl #[.int .u32 0, .slice A0 l0.length c0] rfl (by (try simp only [List.map_toArray, List.map_cons, List.map_nil]); first | done | rfl | (simp only [List.length_drop, List.length_take]; rfl)) ?_; (with_reducible refine (moraineref02_Extend.calls k 0 _ _ l0 t162 _ ?side1 ?side2 A2.out).mono ?_); (case side1 => repeat (first | exact HR0.out | (with_reducible refine Kd.C_alloc ?_ _) | (with_reducible refine Kd.C_drewN ?_ _) | (with_reducible refine Kd.C_drew ?_))); (case side2 => exact HC0.out); rintro e w' ⟨rfl, ⟨nd, rfl⟩⟩; refine ⟨_, rfl, ?_⟩))
  go_ret
  exact ⟨by first | rfl | (simp; done) | (simp [*]; done), by repeat (first | exact Drawn0.refl _ | apply Drawn0.step)⟩

end Go.Proofs.YtmpkigambfghgaaDoor.G

/- Printed by the session's program over the kit's print, out of the translation: functions as plain Lean functions, and the proofs that the calls come to them. -/
namespace Go.Proofs.YtmpkigambfghgaaDoor.G
open Go.RowKit Go.Proofs.YtmpkigambfghgaaDoorW.PrintWords Go.Proofs.YtmpkigambfghgaaDoorW.PrintLast Go.Proofs.YtmpkigambfghgaaDoorW.PrintMore
attribute [local go_sem] max2_int min2_int max_two min_two max_three min_three max_four min_four   -- for this text's walks alone
set_option linter.unusedVariables false
set_option linter.unusedSimpArgs false

/-! ### moraineref02_Mask: function 39 -/
def moraineref02_Mask.f (a0 : Int) : Option (Int) := some (((Go.bits .or .u32 (a0 / 32768) ((a0 * 131072) % 4294967296)) + 2726488792) % 4294967296)
set_option maxHeartbeats 8000000 in
set_option maxRecDepth 100000 in
theorem moraineref02_Mask.calls (a0 : Int) (r : Int) (w : World) (h : moraineref02_Mask.f a0 = some r) :
    Calls Tryd.prog 39 #[.int .u32 a0] w fun e w' => e = .returned (.int .u32 r) ∧ Drawn0 w w' := by
  have H : (some (((Go.bits .or .u32 (a0 / 32768) ((a0 * 131072) % 4294967296)) + 2726488792) % 4294967296)) = some r := h
  clear h
  obtain rfl := Option.some.inj H
  go_enter Tryd.func39, Tryd.ntmps39
  go_wp2
  go_ret
  exact ⟨by first | rfl | (simp; done) | (simp [*]; done), by repeat (first | exact Drawn0.refl _ | apply Drawn0.step)⟩

end Go.Proofs.YtmpkigambfghgaaDoor.G

/- Contracts typed by hand: the sums of bytes: Extend, Sum, Mask, the reference's, and a piece's sum -/
namespace Go.Proofs.YtmpkigambfghgaaDoor.G
open Go.RowKit Go.Proofs.YtmpkigambfghgaaDoorW.PrintWords Go.Proofs.YtmpkigambfghgaaDoorW.PrintLast Go.Proofs.YtmpkigambfghgaaDoorW.PrintMore
attribute [local go_sem] max2_int min2_int max_two min_two max_three min_three max_four min_four
set_option linter.unusedVariables false
set_option linter.unusedSimpArgs false

/-! the sums of bytes: Extend, Sum, Mask, the reference's, and a piece's sum -/
def natl (l : List Int) : List Nat := l.map Int.toNat
def Byt (f : List Int) : Prop := ∀ x ∈ f, 0 ≤ x ∧ x < 256
theorem Byt.nil : Byt [] := fun x h => by cases h
theorem Byt.cons {x : Int} {l : List Int} (h0 : 0 ≤ x) (h1 : x < 256) (h : Byt l) : Byt (x :: l) := fun y hy => by
  rcases List.mem_cons.1 hy with rfl | hy
  · exact ⟨h0, h1⟩
  · exact h y hy
theorem Byt.append {a b : List Int} (ha : Byt a) (hb : Byt b) : Byt (a ++ b) := fun x hx => (List.mem_append.1 hx).elim (ha x) (hb x)
theorem Byt.take {a : List Int} (ha : Byt a) (n : Nat) : Byt (a.take n) := fun x hx => ha x (List.mem_of_mem_take hx)
theorem byt_of_wf {l : List Int} (h : ∀ x ∈ l, (Lit.int .u8 x).wf = true) : Byt l := fun x hx => by
  have : 0 ≤ x ∧ x ≤ 255 := by simpa [Lit.wf, IntKind.min, IntKind.max, IntKind.signed, IntKind.bits] using h x hx
  omega
theorem natl_byt {l : List Int} (h : Byt l) : ∀ b ∈ natl l, b < 256 := fun b hb => by
  obtain ⟨x, hx, rfl⟩ := List.mem_map.1 hb
  have := h x hx
  omega
theorem wr (x : Int) (h0 : -9223372036854775808 ≤ x) (h1 : x ≤ 9223372036854775807) : wrap64 x = x := by unfold wrap64; omega
theorem rd_at (l : List Int) (i : Nat) (h : i < l.length) : rd l (i : Int) = l[i] := by
  unfold rd
  rw [Int.toNat_natCast, List.getD_eq_getElem?_getD, List.getElem?_eq_getElem h]
  rfl
/-- all ones, exclusive-ored -/
def ones : Nat := 4294967295
def inv (r : Nat) : Nat := ones ^^^ r
theorem ones_lt : ones < 4294967296 := by unfold ones; omega
theorem inv_lt {r : Nat} (h : r < 4294967296) : inv r < 4294967296 := by
  show ones ^^^ r < 4294967296
  exact xor_lt ones_lt h
theorem xor_xor (a r : Nat) : a ^^^ (a ^^^ r) = r := by rw [← Nat.xor_assoc, Nat.xor_self, Nat.zero_xor]
theorem inv_def (r : Nat) : inv r = ones ^^^ r := rfl
theorem inv_inv (r : Nat) : inv (inv r) = r := by rw [inv_def, inv_def, xor_xor]
theorem inv_inj {a b : Nat} (h : inv a = inv b) : a = b := by rw [← inv_inv a, h, inv_inv]
theorem inv_int (r : Nat) (h : r < 4294967296) : bits .xor .u32 4294967295 (r : Int) = ((inv r : Nat) : Int) := by
  rw [show (4294967295 : Int) = ((ones : Nat) : Int) by rfl, u32_xor_nat _ r (by unfold ones; omega) h]
  rfl
def ext (s : Nat) (l : List Int) : Nat := inv (crcB (inv s) (natl l))
theorem ext_lt {s : Nat} {l : List Int} (hs : s < 4294967296) (hl : Byt l) : ext s l < 4294967296 := inv_lt (crcB_lt _ _ (inv_lt hs) (natl_byt hl))
theorem extend_loop (l : List Int) (hb : Byt l) (hl : l.length ≤ 1099511627776) : ∀ (d i k : Nat) (r : Nat), i + d = l.length → r < 4294967296 → check_Extend.l0 (k + d + 1) (r : Int) l (l.length : Int) (i : Int) = some ((inv (crcB r (natl (l.drop i))) : Nat) : Int)
  | 0, i, k, r, hi, hr => by
    obtain rfl : i = l.length := by omega
    rw [check_Extend.l0, if_neg (by omega), List.drop_length, inv_int r hr]
    rfl
  | d + 1, i, k, r, hi, hr => by
    have hil : i < l.length := by omega
    obtain ⟨b0, b1⟩ := hb _ (List.getElem_mem hil)
    have c0 : (i : Int) < (l.length : Int) := by omega
    have c1 : 0 ≤ (i : Int) := by omega
    have e5 : wrap64 ((i : Int) + 1) = ((i + 1 : Nat) : Int) := (wr _ (by omega) (by omega)).trans (by omega)
    have ht : check_take.f (r : Int) l[i] = some ((crcN 8 (r ^^^ l[i].toNat) : Nat) : Int) := by
      unfold check_take.f
      rw [if_pos ⟨by omega, by omega, b0, b1⟩, Int.toNat_natCast]
    rw [show k + (d + 1) + 1 = (k + d + 1) + 1 by omega, check_Extend.l0, if_pos c0, if_pos c1, if_pos c0, rd_at l i hil, ht, Option.bind_some, e5]
    rw [extend_loop l hb hl d (i + 1) k _ (by omega) (crcN_lt 8 (xor_lt hr (by omega)))]
    rw [List.drop_eq_getElem_cons hil]
    rfl
theorem extend_eq (k s : Nat) (l : List Int) (hs : s < 4294967296) (hb : Byt l) (hl : l.length ≤ 1099511627776) (hk : l.length + 1 ≤ k) : check_Extend.f k (s : Int) l = some ((ext s l : Nat) : Int) := by
  obtain ⟨k, rfl⟩ : ∃ m, k = m + l.length + 1 := ⟨k - l.length - 1, by omega⟩
  unfold check_Extend.f
  rw [inv_int s hs]
  have := extend_loop l hb hl l.length 0 k (inv s) (by omega) (inv_lt hs)
  rw [List.drop_zero] at this
  exact this
theorem sum_eq (k : Nat) (l : List Int) (hb : Byt l) (hl : l.length ≤ 1099511627776) (hk : l.length + 1 ≤ k) : check_Sum.f k l = some ((ext 0 l : Nat) : Int) := by
  unfold check_Sum.f
  rw [show (0 : Int) = ((0 : Nat) : Int) by rfl, extend_eq k 0 l (by omega) hb hl hk]
  rfl
/-! the reference, bit by bit -/
theorem and1 (x : Nat) (h : x < 4294967296) : bits .and .u32 (x : Int) 1 = ((x % 2 : Nat) : Int) := by
  rw [show (1 : Int) = ((1 : Nat) : Int) by rfl, u32_and_nat x 1 h (by omega)]
  congr 1
  have := Nat.and_two_pow_sub_one_eq_mod x 1
  rw [Nat.pow_one] at this
  exact this
theorem reftake_eq (r b : Nat) (hr : r < 4294967296) (hb : b < 4294967296) : moraineref02_take.f (r : Int) (b : Int) = some ((crc1 (r ^^^ (b % 2)) : Nat) : Int) := by
  have h1 : (r ^^^ b) % 2 = (r ^^^ (b % 2)) % 2 := by rw [xor_odd, xor_odd]; omega
  have h2 : (r ^^^ (b % 2)) / 2 = r / 2 := by
    rw [xor_half, show b % 2 / 2 = 0 by omega, Nat.xor_zero]
  have hd : (r : Int) / 2 = ((r / 2 : Nat) : Int) := by omega
  unfold moraineref02_take.f crc1
  rw [u32_xor_nat r b hr hb, and1 _ (xor_lt hr hb), h1, h2, hd]
  by_cases ho : (r ^^^ (b % 2)) % 2 = 1
  · rw [if_pos ho, if_pos (by omega), show (2197175160 : Int) = ((crcP : Nat) : Int) by rfl, u32_xor_nat _ _ (by omega) (by unfold crcP; omega)]
  · rw [if_neg ho, if_neg (by omega), Nat.xor_zero]
theorem crcN_bit (d r B : Nat) : crcN (d + 1) (r ^^^ B) = crcN d (crc1 (r ^^^ (B % 2)) ^^^ (B / 2)) := by
  have e2 := xor_split 1 B
  rw [Nat.pow_one] at e2
  conv => lhs; rw [← e2]
  rw [Nat.xor_comm (2 * (B / 2)), ← Nat.xor_assoc]
  simp only [crcN]
  rw [crc1_xor, crc1_double]
theorem over_inner (l : List Int) (i b : Nat) (hil : i < l.length) (hl : l.length ≤ 1099511627776) (hx : rd l (i : Int) = (b : Int)) (hb : b < 256) : ∀ (d j k : Nat) (r : Nat), j + d = 8 → r < 4294967296 →
    moraineref02_over.l1 (k + d + 1) (r : Int) l (i : Int) (j : Int) = moraineref02_over.l0 k ((crcN d (r ^^^ (b / 2 ^ j)) : Nat) : Int) l ((i + 1 : Nat) : Int)
  | 0, j, k, r, hj, hr => by
    obtain rfl : j = 8 := by omega
    have e5 : wrap64 ((i : Int) + 1) = ((i + 1 : Nat) : Int) := (wr _ (by omega) (by omega)).trans (by omega)
    rw [moraineref02_over.l1, if_neg (by omega), e5, Nat.div_eq_of_lt (by omega), Nat.xor_zero]
    rfl
  | d + 1, j, k, r, hj, hr => by
    have c0 : (j : Int) < 8 := by omega
    have c1 : 0 ≤ (i : Int) := by omega
    have c2 : (i : Int) < (l.length : Int) := by omega
    have c3 : 0 ≤ (j : Int) := by omega
    have e5 : wrap64 ((j : Int) + 1) = ((j + 1 : Nat) : Int) := (wr _ (by omega) (by omega)).trans (by omega)
    have hle : b / 2 ^ j ≤ b := Nat.div_le_self _ _
    have es : shr .u32 ((b : Int) % 4294967296) (j : Int) = ((b / 2 ^ j : Nat) : Int) := by
      unfold shr
      rw [Int.toNat_natCast, Nat.min_eq_left (by show j ≤ 32; omega), show (b : Int) % 4294967296 = (b : Int) by omega]
      push_cast
      rfl
    rw [show k + (d + 1) + 1 = (k + d + 1) + 1 by omega, moraineref02_over.l1, if_pos c0, if_pos c1, if_pos c2, if_pos c3, hx, e5, es, reftake_eq r _ hr (by omega), Option.bind_some]
    rw [over_inner l i b hil hl hx hb d (j + 1) k _ (by omega) (crc1_lt (xor_lt hr (by omega))), crcN_bit d r, Nat.div_div_eq_div_mul, Nat.pow_succ]
theorem over_loop (l : List Int) (hb : Byt l) (hl : l.length ≤ 1099511627776) : ∀ (d i k : Nat) (r : Nat), i + d = l.length → r < 4294967296 → moraineref02_over.l0 (k + 10 * d + 1) (r : Int) l (i : Int) = some ((crcB r (natl (l.drop i)) : Nat) : Int)
  | 0, i, k, r, hi, hr => by
    obtain rfl : i = l.length := by omega
    rw [moraineref02_over.l0, if_neg (by omega), List.drop_length]
    rfl
  | d + 1, i, k, r, hi, hr => by
    have hil : i < l.length := by omega
    obtain ⟨b0, b1⟩ := hb _ (List.getElem_mem hil)
    obtain ⟨b, hbb⟩ := Int.eq_ofNat_of_zero_le b0
    have c0 : (i : Int) < (l.length : Int) := by omega
    have hin := over_inner l i b hil hl ((rd_at l i hil).trans hbb) (by omega) 8 0 (k + 10 * d + 1) r (by omega) hr
    rw [show ((0 : Nat) : Int) = 0 by rfl, Nat.pow_zero, Nat.div_one] at hin
    rw [show k + 10 * (d + 1) + 1 = (k + 10 * d + 1 + 8 + 1) + 1 by omega, moraineref02_over.l0, if_pos c0, hin]
    rw [over_loop l hb hl d (i + 1) k _ (by omega) (crcN_lt 8 (xor_lt hr (by omega))), List.drop_eq_getElem_cons hil]
    unfold natl
    rw [List.map_cons, crcB_cons, hbb]
    rfl
theorem over_eq (k r : Nat) (l : List Int) (hr : r < 4294967296) (hb : Byt l) (hl : l.length ≤ 1099511627776) (hk : 10 * l.length + 1 ≤ k) : moraineref02_over.f k (r : Int) l = some ((crcB r (natl l) : Nat) : Int) := by
  obtain ⟨k, rfl⟩ : ∃ m, k = m + 10 * l.length + 1 := ⟨k - 10 * l.length - 1, by omega⟩
  unfold moraineref02_over.f
  have := over_loop l hb hl l.length 0 k r (by omega) hr
  rw [List.drop_zero] at this
  exact this
theorem ext_append (s : Nat) (a b : List Int) : ext s (a ++ b) = ext (ext s a) b := by
  unfold ext natl
  rw [List.map_append, crcB_append, inv_inv]
theorem refextend_eq (k s : Nat) (l : List Int) (hs : s < 4294967296) (hb : Byt l) (hl : l.length ≤ 1099511627776) (hk : 10 * l.length + 1 ≤ k) : moraineref02_Extend.f k (s : Int) l = some ((ext s l : Nat) : Int) := by
  unfold moraineref02_Extend.f
  rw [inv_int s hs, over_eq k _ l (inv_lt hs) hb hl hk, Option.bind_some, inv_int _ (crcB_lt _ _ (inv_lt hs) (natl_byt hb))]
  rfl
theorem refsum_eq (k : Nat) (l : List Int) (hb : Byt l) (hl : l.length ≤ 1099511627776) (hk : 10 * l.length + 1 ≤ k) : moraineref02_Sum.f k l = some ((ext 0 l : Nat) : Int) := by
  unfold moraineref02_Sum.f
  rw [show (0 : Int) = ((0 : Nat) : Int) by rfl, refextend_eq k 0 l (by omega) hb hl hk]
  rfl

/-! what is kept of a sum -/
theorem join_nat (i h l : Nat) (hl : l < 2 ^ i) (hs : 2 ^ i * h + l < 4294967296) : bits .or .u32 (l : Int) ((2 ^ i * h : Nat) : Int) = ((2 ^ i * h + l : Nat) : Int) := by
  rw [u32_or_nat l (2 ^ i * h) (by omega) (by omega), Nat.or_comm, ← Nat.two_pow_add_eq_or_of_lt hl h]
theorem join17 (hi lo : Int) (h0 : 0 ≤ lo) (h1 : lo < 131072) (h2 : 0 ≤ hi) (h3 : 131072 * hi + lo < 4294967296) : bits .or .u32 lo (131072 * hi) = 131072 * hi + lo := by
  obtain ⟨l, rfl⟩ := Int.eq_ofNat_of_zero_le h0
  obtain ⟨h, rfl⟩ := Int.eq_ofNat_of_zero_le h2
  have := join_nat 17 h l (by omega) (by omega)
  rw [show (131072 * (h : Int)) = ((2 ^ 17 * h : Nat) : Int) by omega, this]
  omega
def maskI (x : Int) : Int := (x / 32768 + 131072 * (x % 32768) + 2726488792) % 4294967296
def maskN (x : Nat) : Nat := (maskI (x : Int)).toNat
theorem maskI_range (x : Int) : 0 ≤ maskI x ∧ maskI x < 4294967296 := by unfold maskI; omega
theorem maskN_int (x : Nat) : ((maskN x : Nat) : Int) = maskI (x : Int) := by
  have := maskI_range (x : Int)
  unfold maskN
  omega
theorem maskN_lt (x : Nat) : maskN x < 4294967296 := by
  have := maskN_int x
  have := maskI_range (x : Int)
  omega
theorem maskI_inj {x y : Int} (hx0 : 0 ≤ x) (hx : x < 4294967296) (hy0 : 0 ≤ y) (hy : y < 4294967296) (h : maskI x = maskI y) : x = y := by
  have h1 : 0 ≤ x / 32768 + 131072 * (x % 32768) ∧ x / 32768 + 131072 * (x % 32768) < 4294967296 := by omega
  have h2 : 0 ≤ y / 32768 + 131072 * (y % 32768) ∧ y / 32768 + 131072 * (y % 32768) < 4294967296 := by omega
  have h3 : x / 32768 + 131072 * (x % 32768) = y / 32768 + 131072 * (y % 32768) := by
    unfold maskI at h
    generalize x / 32768 + 131072 * (x % 32768) = a at *
    generalize y / 32768 + 131072 * (y % 32768) = b at *
    omega
  clear h h1 h2
  have h4 : x / 32768 = y / 32768 := by omega
  have h5 : x % 32768 = y % 32768 := by omega
  omega
theorem maskN_inj {x y : Nat} (hx : x < 4294967296) (hy : y < 4294967296) (h : maskN x = maskN y) : x = y := by
  have := maskI_inj (x := (x : Int)) (y := (y : Int)) (by omega) (by omega) (by omega) (by omega) (by rw [← maskN_int, ← maskN_int, h])
  omega
theorem mask_eq (x : Nat) (h1 : x < 4294967296) : check_Mask.f (x : Int) = some ((maskN x : Nat) : Int) := by
  rw [maskN_int]
  unfold check_Mask.f maskI
  have e : (x : Int) * 131072 % 4294967296 = 131072 * ((x : Int) % 32768) := by omega
  rw [e, join17 ((x : Int) % 32768) ((x : Int) / 32768) (by omega) (by omega) (by omega) (by omega), Int.add_comm (131072 * _)]
theorem refmask_eq (x : Nat) (h1 : x < 4294967296) : moraineref02_Mask.f (x : Int) = some ((maskN x : Nat) : Int) := (rfl : moraineref02_Mask.f (x : Int) = check_Mask.f (x : Int)).trans (mask_eq x h1)
/-- a piece's sum -/
def sumN (kind : Int) (d : List Int) : Nat := maskN (ext 0 (kind :: d))
theorem sumN_lt (kind : Int) (d : List Int) : sumN kind d < 4294967296 := maskN_lt _
theorem sumOf_eq (k : Nat) (kind : Int) (d : List Int) (hk0 : 0 ≤ kind) (hk1 : kind < 256) (hb : Byt d) (hl : d.length ≤ 1099511627776) (hk : d.length + 2 ≤ k) : journal_sumOf.f k kind d = some ((sumN kind d : Nat) : Int) := by
  unfold journal_sumOf.f
  have hb1 : Byt [kind] := Byt.cons hk0 hk1 Byt.nil
  rw [sum_eq k [kind] hb1 (by simp) (by simp; omega), Option.bind_some, extend_eq k _ d (ext_lt (by omega) hb1) hb hl (by omega), Option.bind_some, mask_eq _ (ext_lt (ext_lt (by omega) hb1) hb), Option.bind_some]
  unfold sumN
  rw [show kind :: d = [kind] ++ d from rfl, ext_append]
theorem refsumOf_eq (k : Nat) (kind : Int) (d : List Int) (hk0 : 0 ≤ kind) (hk1 : kind < 256) (hb : Byt d) (hl : d.length ≤ 1099511627775) (hk : 10 * d.length + 11 ≤ k) : ((moraineref02_Sum.f k (kind :: d)).bind fun t => moraineref02_Mask.f t) = some ((sumN kind d : Nat) : Int) := by
  have hb1 : Byt (kind :: d) := Byt.cons hk0 hk1 hb
  rw [refsum_eq k _ hb1 (by simp; omega) (by simp; omega), Option.bind_some, refmask_eq _ (ext_lt (by omega) hb1)]
  rfl

end Go.Proofs.YtmpkigambfghgaaDoor.G

/- Printed by the session's program over the kit's print, out of the translation: functions as plain Lean functions, and the proofs that the calls come to them. -/
namespace Go.Proofs.YtmpkigambfghgaaDoor.G
open Go.RowKit Go.Proofs.YtmpkigambfghgaaDoorW.PrintWords Go.Proofs.YtmpkigambfghgaaDoorW.PrintLast Go.Proofs.YtmpkigambfghgaaDoorW.PrintMore
attribute [local go_sem] max2_int min2_int max_two min_two max_three min_three max_four min_four   -- for this text's walks alone
set_option linter.unusedVariables false
set_option linter.unusedSimpArgs false

/-! ### journal_kindOf: function 29 -/
def journal_kindOf.j0 : Nat → Bool → Bool → Bool → Option (Int)
  | 0, _, _, _ => none
  | k + 1, x0, x1, x5 => if x5 = true then (some 1) else (if x0 = true then (some 2) else (if x1 = true then (some 4) else (some 3)))
def journal_kindOf.f (k : Nat) (a0 : Bool) (a1 : Bool) : Option (Int) := if a0 = true then (journal_kindOf.j0 k a0 a1 a1) else (journal_kindOf.j0 k a0 a1 false)
theorem journal_kindOf.mono_l : ∀ k, (∀ y0 y1 y2, LeO (journal_kindOf.j0 k y0 y1 y2) (journal_kindOf.j0 (k + 1) y0 y1 y2))
  | 0 => fun _ _ _ r h => by simp [journal_kindOf.j0] at h
  | k + 1 => by
    have ih0 := journal_kindOf.mono_l k
    · intro y0 y1 y2
      unfold journal_kindOf.j0
      repeat' first
      | (with_reducible exact ih0 _ _ _)
      | (with_reducible exact LeO.refl _)
      | (with_reducible exact LeO.none _)
      | (with_reducible refine LeO.ite ?_ ?_)
      | (with_reducible refine LeO.bind ?_ (fun _ => ?_))
      | exact ih0 _ _ _
      | exact LeO.none _
      | refine LeO.ite ?_ ?_
      | refine LeO.bind ?_ (fun _ => ?_)
theorem journal_kindOf.mono : ∀ a0 a1 k, LeO (journal_kindOf.f k a0 a1) (journal_kindOf.f (k + 1) a0 a1) := by
  intro a0 a1 k
  have ih0 := journal_kindOf.mono_l k
  unfold journal_kindOf.f
  repeat' first
      | (with_reducible exact ih0 _ _ _)
      | (with_reducible exact LeO.refl _)
      | (with_reducible exact LeO.none _)
      | (with_reducible refine LeO.ite ?_ ?_)
      | (with_reducible refine LeO.bind ?_ (fun _ => ?_))
      | exact ih0 _ _ _
      | exact LeO.none _
      | refine LeO.ite ?_ ?_
      | refine LeO.bind ?_ (fun _ => ?_)
set_option maxHeartbeats 8000000 in
set_option maxRecDepth 100000 in
theorem journal_kindOf.calls (k : Nat) (a0 : Bool) (a1 : Bool) (r : Int) (w : World) (h : journal_kindOf.f k a0 a1 = some r) :
    Calls Tryd.prog 29 #[.bool a0, .bool a1] w fun e w' => e = .returned (.int .u8 r) ∧ Drawn0 w w' := by
  have H : (if a0 = true then (journal_kindOf.j0 k a0 a1 a1) else (journal_kindOf.j0 k a0 a1 false)) = some r := h
  clear h
  have HC3 := Aside0.mk H
  clear H
  go_enter Tryd.func29, Tryd.ntmps29
  go_upto_region 1 with (fail)
  go_cut [5] (fun v5 wc => ∃ (kq : Nat) (x5_2 : Bool), v5 = .bool x5_2 ∧ Aside0 (journal_kindOf.j0 kq a0 a1 x5_2 = some r) ∧ Aside0 (kq ≤ k) ∧ Drawn0 w wc)
  case first =>
    have H := HC3.out
    clear HC3
    by_cases c4 : a0 = true
    · subst c4
      have H1 : (journal_kindOf.j0 k true a1 a1) = some r := by rw [if_pos rfl] at H; exact H
      clear H
      have H := H1
      clear H1
      have H' := Aside0.mk H
      clear H
      go_wp2
      go_meet
      case rel => exact ⟨_, (a1), (by first | rfl | (simp; done) | (simp [*]; done)), H', ⟨by first | omega | exact Nat.le_refl _⟩, by repeat (first | exact Drawn0.refl _ | apply Drawn0.step)⟩
    · replace c4 := Bool.eq_false_iff.mpr c4
      subst c4
      have H1 : (journal_kindOf.j0 k false a1 false) = some r := by rw [if_neg (show ¬ (false = true) by decide)] at H; exact H
      clear H
      have H := H1
      clear H1
      have H' := Aside0.mk H
      clear H
      go_wp2
      go_meet
      case rel => exact ⟨_, (false), (by first | rfl | (simp; done) | (simp [*]; done)), H', ⟨by first | omega | exact Nat.le_refl _⟩, by repeat (first | exact Drawn0.refl _ | apply Drawn0.step)⟩
  case rest =>
    clear HC3
    try clear c2
    try clear p2
    try clear c4
    obtain ⟨kq, x5_2, rfl, HA, HJ2, ⟨mc2, rfl⟩⟩ := hcut
    cases kq with
    | zero => exact absurd HA.out (by simp [journal_kindOf.j0])
    | succ kj2 =>
      have H := HA.out
      clear HA
      simp only [journal_kindOf.j0] at H
      by_cases c5 : x5_2 = true
      · subst c5
        have H1 : (some 1) = some r := by rw [if_pos rfl] at H; exact H
        clear H
        have H := H1
        clear H1
        obtain rfl := Option.some.inj H
        go_wp2
        go_ret
        exact ⟨by first | rfl | (simp; done) | (simp [*]; done), by repeat (first | exact Drawn0.refl _ | apply Drawn0.step)⟩
      · replace c5 := Bool.eq_false_iff.mpr c5
        subst c5
        have H1 : (if a0 = true then (some 2) else (if a1 = true then (some 4) else (some 3))) = some r := by rw [if_neg (show ¬ (false = true) by decide)] at H; exact H
        clear H
        have H := H1
        clear H1
        by_cases c6 : a0 = true
        · subst c6
          have H1 : (some 2) = some r := by rw [if_pos rfl] at H; exact H
          clear H
          have H := H1
          clear H1
          obtain rfl := Option.some.inj H
          go_wp2
          go_ret
          exact ⟨by first | rfl | (simp; done) | (simp [*]; done), by repeat (first | exact Drawn0.refl _ | apply Drawn0.step)⟩
        · replace c6 := Bool.eq_false_iff.mpr c6
          subst c6
          have H1 : (if a1 = true then (some 4) else (some 3)) = some r := by rw [if_neg (show ¬ (false = true) by decide)] at H; exact H
          clear H
          have H := H1
          clear H1
          by_cases c7 : a1 = true
          · subst c7
            have H1 : (some 4) = some r := by rw [if_pos rfl] at H; exact H
            clear H
            have H := H1
            clear H1
            obtain rfl := Option.some.inj H
            go_wp2
            go_ret
            exact ⟨by first | rfl | (simp; done) | (simp [*]; done), by repeat (first | exact Drawn0.refl _ | apply Drawn0.step)⟩
          · replace c7 := Bool.eq_false_iff.mpr c7
            subst c7
            have H1 : (some 3) = some r := by rw [if_neg (show ¬ (false = true) by decide)] at H; exact H
            clear H
            have H := H1
            clear H1
            obtain rfl := Option.some.inj H
            go_wp2
            go_ret
            exact ⟨by first | rfl | (simp; done) | (simp [*]; done), by repeat (first | exact Drawn0.refl _ | apply Drawn0.step)⟩

end Go.Proofs.YtmpkigambfghgaaDoor.G

/- Printed by the session's program over the kit's print, out of the translation: functions as plain Lean functions, and the proofs that the calls come to them. -/
namespace Go.Proofs.YtmpkigambfghgaaDoor.G
open Go.RowKit Go.Proofs.YtmpkigambfghgaaDoorW.PrintWords Go.Proofs.YtmpkigambfghgaaDoorW.PrintLast Go.Proofs.YtmpkigambfghgaaDoorW.PrintMore
attribute [local go_sem] max2_int min2_int max_two min_two max_three min_three max_four min_four   -- for this text's walks alone
set_option linter.unusedVariables false
set_option linter.unusedSimpArgs false

/-! ### moraineref01_Fixed: function 44 -/
def moraineref01_Fixed.l0 : Nat → Int → Int → List Int → Int → Option (List Int)
  | 0, _, _, _, _ => none
  | k + 1, x0, x1, x5, x6 => if x6 < x1 then (if x5.length < 140737488355328 then (moraineref01_Fixed.l0 k (IntKind.u64.wrap (Int.tdiv x0 256)) x1 (x5 ++ [(x0) % 256]) (wrap64 (x6 + 1))) else (none)) else (some x5)
def moraineref01_Fixed.f (k : Nat) (a0 : Int) (a1 : Int) : Option (List Int) := moraineref01_Fixed.l0 k a0 a1 ([] : List Int) 0
theorem moraineref01_Fixed.mono_l : ∀ k, (∀ y0 y1 y2 y3, LeO (moraineref01_Fixed.l0 k y0 y1 y2 y3) (moraineref01_Fixed.l0 (k + 1) y0 y1 y2 y3))
  | 0 => fun _ _ _ _ r h => by simp [moraineref01_Fixed.l0] at h
  | k + 1 => by
    have ih0 := moraineref01_Fixed.mono_l k
    · intro y0 y1 y2 y3
      unfold moraineref01_Fixed.l0
      repeat' first
      | (with_reducible exact ih0 _ _ _ _)
      | (with_reducible exact LeO.refl _)
      | (with_reducible exact LeO.none _)
      | (with_reducible refine LeO.ite ?_ ?_)
      | (with_reducible refine LeO.bind ?_ (fun _ => ?_))
      | exact ih0 _ _ _ _
      | exact LeO.none _
      | refine LeO.ite ?_ ?_
      | refine LeO.bind ?_ (fun _ => ?_)
theorem moraineref01_Fixed.mono : ∀ a0 a1 k, LeO (moraineref01_Fixed.f k a0 a1) (moraineref01_Fixed.f (k + 1) a0 a1) := by
  intro a0 a1 k
  have ih0 := moraineref01_Fixed.mono_l k
  unfold moraineref01_Fixed.f
  repeat' first
      | (with_reducible exact ih0 _ _ _ _)
      | (with_reducible exact LeO.refl _)
      | (with_reducible exact LeO.none _)
      | (with_reducible refine LeO.ite ?_ ?_)
      | (with_reducible refine LeO.bind ?_ (fun _ => ?_))
      | exact ih0 _ _ _ _
      | exact LeO.none _
      | refine LeO.ite ?_ ?_
      | refine LeO.bind ?_ (fun _ => ?_)
set_option maxHeartbeats 8000000 in
set_option maxRecDepth 100000 in
theorem moraineref01_Fixed.calls (k : Nat) (a0 : Int) (a1 : Int) (r : List Int) (w : World) (h : moraineref01_Fixed.f k a0 a1 = some r) :
    Calls Tryd.prog 44 #[.int .u64 a0, .int .i64 a1] w fun e w' => ∃ v0_ : Value, e = .returned (v0_) ∧ Kd.R (Kd.int .u8) 5 w' w.heap.size (fun _ => True) v0_ r ∧ Below w.heap.size w w' := by
  have HB := Aside0.mk (Below.refl w.heap.size w)
  have H : (moraineref01_Fixed.l0 k a0 a1 ([] : List Int) 0) = some r := h
  clear h
  have H' := Aside0.mk H
  clear H
  go_enter Tryd.func44, Tryd.ntmps44
  go_wp2
  go_loopg [0, 5, 6] k (fun kq v0 v5 v6 w' => ∃ (x0_1 : Int) (x5_1 : List Int) (x6_1 : Int), v0 = .int .u64 x0_1 ∧ v6 = .int .i64 x6_1 ∧ Aside0 (moraineref01_Fixed.l0 kq x0_1 a1 x5_1 x6_1 = some r) ∧ Aside0 (kq ≤ k) ∧ Aside0 (Kd.R (Kd.int .u8) 5 w' w.heap.size (fun _ => True) v5 x5_1) ∧ Aside0 (Below w.heap.size w w'))
  case atStart => exact ⟨(a0), (([] : List Int)), (0), (by first | rfl | (simp; done) | (simp [*]; done)), (by first | rfl | (simp; done) | (simp [*]; done)), H', ⟨Nat.le_refl _⟩, ⟨by first | exact Kd.R_nil _ _ _ _ _ | exact Kd.N_nil _ _ _ _ _ | exact Kd.V_nil _ _ _ _ _ | exact Kd.Q_nil _ _ _ _ _ | exact Kd.S_nil _ _ _ _ _⟩, ⟨by repeat (first | (with_reducible first | exact HB.out | apply below_alloc | apply pw_below_drewN | apply below_drew1) | exact HB.out)⟩⟩
  case round =>
    clear H'
    try clear p2
    obtain ⟨x0_1, x5_1, x6_1, rfl, rfl, HA, HK1, HO_5, HB⟩ := hrel
    cases gk with
    | zero => exact absurd HA.out (by simp [moraineref01_Fixed.l0])
    | succ k1 =>
      have H := HA.out
      clear HA
      simp only [moraineref01_Fixed.l0] at H
      by_cases c3 : x6_1 < a1
      · rw [if_pos c3] at H
        have c3b0 : decide (x6_1 < a1) = true := decide_eq_true c3
        clear c3
        by_cases c4 : x5_1.length < 140737488355328
        · rw [if_pos c4] at H
          have LMc4 := Aside0.mk c4
          clear c4
          obtain ⟨y163, hy163⟩ : ∃ y_ : List Int, y_ = (x5_1 ++ [(x0_1) % 256]) := ⟨_, rfl⟩
          replace H : (moraineref01_Fixed.l0 k1 (IntKind.u64.wrap (Int.tdiv x0_1 256)) a1 y163 (wrap64 (x6_1 + 1))) = some r := by first | (rw [hy163]; with_reducible exact H) | (have H2_ := (Option.bind_some _ _).symm.trans H; rw [hy163]; with_reducible exact H2_) | (have H2_ := (Option.bind_some _ _).symm.trans H; with_reducible exact H2_) | with_reducible exact H | (rw [hy163]; exact H) | exact H
          have Ny163 := Aside0.mk hy163
          clear hy163
          have H' := Aside0.mk H
          clear H
          go_wp2_with (first | ((with_reducible refine gate_builtin (b := .append) (xs := #[.tmp 12, .tmp 15]) rfl ?_); at_builtin; refine Kd.R_append (Kd.int .u8) (w0 := w) w.heap.size rfl (.tmp 12) (.tmp 15) 22 5 (.int .u8 0) 1 rfl Tryd.underlying22 info5 rfl (by decide) (by omega) u5 x5_1 ((x0_1) % 256) [.int .u8 ((x0_1) % 256)] (fun _ => True) (fun _ => False) rfl rfl ?aP (fun _ hk => hk.elim) ?aF ?aO ?aB ?aS ?aL ?_; (case aP => exact rfl); (case aB => exact (by repeat (first | (with_reducible first | exact HB.out | apply below_alloc | apply pw_below_drewN | apply below_drew1) | exact HB.out))); (case aF => exact (fun _ _ => trivial)); (case aO => exact (by (with_reducible repeat (first | apply Kd.R_alloc | apply Kd.R_drewN | apply Kd.R_drew)); exact HO_5.out)); (case aS => exact (below_size (by repeat (first | (with_reducible first | exact HB.out | apply below_alloc | apply pw_below_drewN | apply below_drew1) | exact HB.out)))); (case aL => have := LMc4.out; omega); intro v164 w5 ho hb hg hat; rw [← Ny163.out] at ho; have n0_ := Aside0.mk (hb); have n1_ := Aside0.mk (ho); clear HB; clear HO_5; have HB := n0_; have HO165 := n1_; clear n0_ n1_; clear ho hb hg hat))
          go_roundg k1
          case measure => have := HK1.out; omega
          case rel => exact ⟨(IntKind.u64.wrap (Int.tdiv x0_1 256)), (y163), (wrap64 (x6_1 + 1)), (by first | rfl | (simp; done) | (simp [*]; done)), (by first | rfl | (simp; done) | (simp [*]; done)), H', ⟨by have := HK1.out; omega⟩, ⟨by (with_reducible repeat (first | apply Kd.R_alloc | apply Kd.R_drewN | apply Kd.R_drew)); exact HO165.out⟩, ⟨by repeat (first | (with_reducible first | exact HB.out | apply below_alloc | apply pw_below_drewN | apply below_drew1) | exact HB.out)⟩⟩
        · rw [if_neg c4] at H
          exact absurd H (by simp)
      · rw [if_neg c3] at H
        have c3b0 : decide (x6_1 < a1) = false := decide_eq_false c3
        clear c3
        obtain rfl := Option.some.inj H
        go_wp2
        go_ret
        exact ⟨_, by first | rfl | (simp [errW_none, errW_some] <;> rfl) | (simp [*, errW_none, errW_some] <;> rfl), by (with_reducible repeat (first | apply Kd.R_alloc | apply Kd.R_drewN | apply Kd.R_drew)); exact HO_5.out, by repeat (first | (with_reducible first | exact HB.out | apply below_alloc | apply pw_below_drewN | apply below_drew1) | exact HB.out)⟩

end Go.Proofs.YtmpkigambfghgaaDoor.G

/- Printed by the session's program over the kit's print, out of the translation: functions as plain Lean functions, and the proofs that the calls come to them. -/
namespace Go.Proofs.YtmpkigambfghgaaDoor.G
open Go.RowKit Go.Proofs.YtmpkigambfghgaaDoorW.PrintWords Go.Proofs.YtmpkigambfghgaaDoorW.PrintLast Go.Proofs.YtmpkigambfghgaaDoorW.PrintMore
attribute [local go_sem] max2_int min2_int max_two min_two max_three min_three max_four min_four   -- for this text's walks alone
set_option linter.unusedVariables false
set_option linter.unusedSimpArgs false

/-! ### moraineref07_piece: function 32 -/
def moraineref07_piece.f (k : Nat) (a0 : Int) (l1 : List Int) : Option (List Int) := (some (([(a0) % 256] : List Int) : List Int)).bind fun y166 => (if y166.length + l1.length < 140737488355328 then ((some (y166 ++ l1 : List Int)).bind fun y169 => ((moraineref02_Sum.f k y169).bind fun t172 => ((moraineref02_Mask.f t172).bind fun t173 => ((moraineref01_Fixed.f k (IntKind.u64.wrap (t173)) 4).bind fun t174 => ((moraineref01_Fixed.f k (IntKind.u64.wrap ((l1.length : Int))) 2).bind fun t177 => (if t174.length + t177.length < 140737488355328 then ((some (t174 ++ t177 : List Int)).bind fun y180 => (if y180.length + y169.length < 140737488355328 then (some (y180 ++ y169)) else (none))) else (none))))))) else (none))
theorem moraineref07_piece.mono : ∀ a0 a1 k, LeO (moraineref07_piece.f k a0 a1) (moraineref07_piece.f (k + 1) a0 a1) := by
  intro a0 a1 k
  unfold moraineref07_piece.f
  repeat' first
      | (with_reducible exact moraineref01_Fixed.mono _ _ _)
      | (with_reducible exact moraineref02_Sum.mono _ _)
      | (with_reducible exact LeO.refl _)
      | (with_reducible exact LeO.none _)
      | (with_reducible refine LeO.ite ?_ ?_)
      | (with_reducible refine LeO.bind ?_ (fun _ => ?_))
      | exact moraineref01_Fixed.mono _ _ _
      | exact moraineref02_Sum.mono _ _
      | exact LeO.none _
      | refine LeO.ite ?_ ?_
      | refine LeO.bind ?_ (fun _ => ?_)
set_option maxHeartbeats 8000000 in
set_option maxRecDepth 100000 in
theorem moraineref07_piece.calls (k : Nat) (a0 : Int) (A1 : Option Addr) (c1 : Nat) (l1 : List Int) (r : List Int) (w : World) (hr1 : Kd.C (Kd.int .u8) w A1 l1.length l1) (hc1 : l1.length ≤ c1) (h : moraineref07_piece.f k a0 l1 = some r) :
    Calls Tryd.prog 32 #[.int .i64 a0, .slice A1 l1.length c1] w fun e w' => ∃ v0_ : Value, e = .returned (v0_) ∧ Kd.R (Kd.int .u8) 5 w' w.heap.size (fun _ => True) v0_ r ∧ Below w.heap.size w w' := by
  have HR1 := Aside0.mk hr1
  have HC1 := Aside0.mk hc1
  clear hr1 hc1
  have HB := Aside0.mk (Below.refl w.heap.size w)
  have H : ((some (([(a0) % 256] : List Int) : List Int)).bind fun y166 => (if y166.length + l1.length < 140737488355328 then ((some (y166 ++ l1 : List Int)).bind fun y169 => ((moraineref02_Sum.f k y169).bind fun t172 => ((moraineref02_Mask.f t172).bind fun t173 => ((moraineref01_Fixed.f k (IntKind.u64.wrap (t173)) 4).bind fun t174 => ((moraineref01_Fixed.f k (IntKind.u64.wrap ((l1.length : Int))) 2).bind fun t177 => (if t174.length + t177.length < 140737488355328 then ((some (t174 ++ t177 : List Int)).bind fun y180 => (if y180.length + y169.length < 140737488355328 then (some (y180 ++ y169)) else (none))) else (none))))))) else (none))) = some r := h
  clear h
  obtain ⟨y166, hy166⟩ : ∃ y_ : List Int, y_ = (([(a0) % 256] : List Int)) := ⟨_, rfl⟩
  replace H : (if y166.length + l1.length < 140737488355328 then ((some (y166 ++ l1 : List Int)).bind fun y169 => ((moraineref02_Sum.f k y169).bind fun t172 => ((moraineref02_Mask.f t172).bind fun t173 => ((moraineref01_Fixed.f k (IntKind.u64.wrap (t173)) 4).bind fun t174 => ((moraineref01_Fixed.f k (IntKind.u64.wrap ((l1.length : Int))) 2).bind fun t177 => (if t174.length + t177.length < 140737488355328 then ((some (t174 ++ t177 : List Int)).bind fun y180 => (if y180.length + y169.length < 140737488355328 then (some (y180 ++ y169)) else (none))) else (none))))))) else (none)) = some r := by first | (rw [hy166]; with_reducible exact H) | (have H2_ := (Option.bind_some _ _).symm.trans H; rw [hy166]; with_reducible exact H2_) | (have H2_ := (Option.bind_some _ _).symm.trans H; with_reducible exact H2_) | with_reducible exact H | (rw [hy166]; exact H) | exact H
  have Ny166 := Aside0.mk hy166
  clear hy166
  by_cases c3 : y166.length + l1.length < 140737488355328
  · rw [if_pos c3] at H
    have LMc3 := Aside0.mk c3
    clear c3
    obtain ⟨y169, hy169⟩ : ∃ y_ : List Int, y_ = (y166 ++ l1) := ⟨_, rfl⟩
    replace H : ((moraineref02_Sum.f k y169).bind fun t172 => ((moraineref02_Mask.f t172).bind fun t173 => ((moraineref01_Fixed.f k (IntKind.u64.wrap (t173)) 4).bind fun t174 => ((moraineref01_Fixed.f k (IntKind.u64.wrap ((l1.length : Int))) 2).bind fun t177 => (if t174.length + t177.length < 140737488355328 then ((some (t174 ++ t177 : List Int)).bind fun y180 => (if y180.length + y169.length < 140737488355328 then (some (y180 ++ y169)) else (none))) else (none)))))) = some r := by first | (rw [hy169]; with_reducible exact H) | (have H2_ := (Option.bind_some _ _).symm.trans H; rw [hy169]; with_reducible exact H2_) | (have H2_ := (Option.bind_some _ _).symm.trans H; with_reducible exact H2_) | with_reducible exact H | (rw [hy169]; exact H) | exact H
    have Ny169 := Aside0.mk hy169
    clear hy169
    replace H := Option.bind_eq_some_iff.mp H
    obtain ⟨t172, A40, H⟩ := H
    replace H : ((moraineref02_Mask.f t172).bind fun t173 => ((moraineref01_Fixed.f k (IntKind.u64.wrap (t173)) 4).bind fun t174 => ((moraineref01_Fixed.f k (IntKind.u64.wrap ((l1.length : Int))) 2).bind fun t177 => (if t174.length + t177.length < 140737488355328 then ((some (t174 ++ t177 : List Int)).bind fun y180 => (if y180.length + y169.length < 140737488355328 then (some (y180 ++ y169)) else (none))) else (none))))) = some r := H
    have A4 := Aside0.mk A40
    clear A40
    replace H := Option.bind_eq_some_iff.mp H
    obtain ⟨t173, A50, H⟩ := H
    replace H : ((moraineref01_Fixed.f k (IntKind.u64.wrap (t173)) 4).bind fun t174 => ((moraineref01_Fixed.f k (IntKind.u64.wrap ((l1.length : Int))) 2).bind fun t177 => (if t174.length + t177.length < 140737488355328 then ((some (t174 ++ t177 : List Int)).bind fun y180 => (if y180.length + y169.length < 140737488355328 then (some (y180 ++ y169)) else (none))) else (none)))) = some r := H
    have A5 := Aside0.mk A50
    clear A50
    replace H := Option.bind_eq_some_iff.mp H
    obtain ⟨t174, A60, H⟩ := H
    replace H : ((moraineref01_Fixed.f k (IntKind.u64.wrap ((l1.length : Int))) 2).bind fun t177 => (if t174.length + t177.length < 140737488355328 then ((some (t174 ++ t177 : List Int)).bind fun y180 => (if y180.length + y169.length < 140737488355328 then (some (y180 ++ y169)) else (none))) else (none))) = some r := H
    have A6 := Aside0.mk A60
    clear A60
    replace H := Option.bind_eq_some_iff.mp H
    obtain ⟨t177, A70, H⟩ := H
    replace H : (if t174.length + t177.length < 140737488355328 then ((some (t174 ++ t177 : List Int)).bind fun y180 => (if y180.length + y169.length < 140737488355328 then (some (y180 ++ y169)) else (none))) else (none)) = some r := H
    have A7 := Aside0.mk A70
    clear A70
    by_cases c8 : t174.length + t177.length < 140737488355328
    · rw [if_pos c8] at H
      have LMc8 := Aside0.mk c8
      clear c8
      obtain ⟨y180, hy180⟩ : ∃ y_ : List Int, y_ = (t174 ++ t177) := ⟨_, rfl⟩
      replace H : (if y180.length + y169.length < 140737488355328 then (some (y180 ++ y169)) else (none)) = some r := by first | (rw [hy180]; with_reducible exact H) | (have H2_ := (Option.bind_some _ _).symm.trans H; rw [hy180]; with_reducible exact H2_) | (have H2_ := (Option.bind_some _ _).symm.trans H; with_reducible exact H2_) | with_reducible exact H | (rw [hy180]; exact H) | exact H
      have Ny180 := Aside0.mk hy180
      clear hy180
      by_cases c9 : y180.length + y169.length < 140737488355328
      · rw [if_pos c9] at H
        have LMc9 := Aside0.mk c9
        clear c9
        obtain ⟨y183, hy183⟩ : ∃ y_ : List Int, y_ = (y180 ++ y169) := ⟨_, rfl⟩
        replace H : (some y183) = some r := by first | (rw [hy183]; with_reducible exact H) | (have H2_ := (Option.bind_some _ _).symm.trans H; rw [hy183]; with_reducible exact H2_) | (have H2_ := (Option.bind_some _ _).symm.trans H; with_reducible exact H2_) | with_reducible exact H | (rw [hy183]; exact H) | exact H
        have Ny183 := Aside0.mk hy183
        clear hy183
        obtain rfl := Option.some.inj H
        go_enter Tryd.func32, Tryd.ntmps32
        go_wp2_with (first | ((with_reducible refine gate_dst (N := 9) rfl ?_); refine Kd.R_lit (Kd.int .u8) _ 5 ?hg (N := 9) ?hd (xs := ([(a0) % 256] : List Int)) (inner := [.int .u8 ((a0) % 256)]) (ok := fun _ => True) (okp := fun _ => True) ?hr ?hp (fun _ hk => hk) trivial (Below.refl _ _) (Nat.le_refl _) (by simp) ?_; (case hd => rfl); (case hg => rfl); (case hr => first | (go_simp; done) | (go_simp; rfl)); (case hp => exact (Reps.one (show Kd.M (Kd.int .u8) _ _ _ ((a0) % 256) [.int .u8 ((a0) % 256)] from rfl) (Reps.none _ _))); intro v167 w10 ho11 hb hg_ hnew_; clear hg_ hnew_; (first | rw [← Ny166.out] at ho11 | (simp only [Int.reduceToNat] at ho11; rw [← Ny166.out] at ho11)); have n0_ := Aside0.mk (Kd.R_lower ho11 (below_size (by repeat (first | (with_reducible first | exact HB.out | apply below_alloc | apply pw_below_drewN | apply below_drew1) | exact HB.out)))); have n1_ := Aside0.mk (below_step (by repeat (first | (with_reducible first | exact HB.out | apply below_alloc | apply pw_below_drewN | apply below_drew1) | exact HB.out)) hb); clear HB; have HO168 := n0_; have HB := n1_; clear n0_ n1_; clear hb ho11) | ((with_reducible refine gate_builtin (b := .append) (xs := #[.tmp 9, .tmp 10]) rfl ?_); at_builtin; refine Kd.R_append_rows (Kd.int .u8) (w0 := w) w.heap.size rfl (.tmp 9) (.tmp 10) 22 5 (.int .u8 0) 1 rfl Tryd.underlying22 info5 rfl (by decide) (by omega) v167 y166 l1 _ _ _ (fun _ => True) (fun _ => False) rfl rfl ?aO ?aR (fun _ _ h => h) (fun _ h => h.elim) ?aF ?aB ?aS ?aL ?_; (case aR => repeat (first | exact (Kd.C_below HR1.out HB.out) | (with_reducible refine Kd.C_alloc ?_ _) | (with_reducible refine Kd.C_drewN ?_ _) | (with_reducible refine Kd.C_drew ?_))); (case aB => exact (by repeat (first | (with_reducible first | exact HB.out | apply below_alloc | apply pw_below_drewN | apply below_drew1) | exact HB.out))); (case aF => exact (fun _ _ => trivial)); (case aO => exact (by (with_reducible repeat (first | apply Kd.R_alloc | apply Kd.R_drewN | apply Kd.R_drew)); exact HO168.out)); (case aS => exact (below_size (by repeat (first | (with_reducible first | exact HB.out | apply below_alloc | apply pw_below_drewN | apply below_drew1) | exact HB.out)))); (case aL => have := LMc3.out; omega); intro v170 w12 ho hb hg hat; rw [← Ny169.out] at ho; have n0_ := Aside0.mk (hb); have n1_ := Aside0.mk (ho); clear HB; clear HO168; have HB := n0_; have HO171 := n1_; clear n0_ n1_; clear ho hb hg hat; obtain ⟨Ao13, co13, eo13⟩ := Kd.R_slice HO171.out; subst eo13) | ((with_reducible refine gate_callee (f := 40) rfl ?_); refine goesL_ (some 13) rfl rfl Tryd.func40 (by kernel_rfl) rfl #[.slice Ao13 y169.length co13] rfl (by (try simp only [List.map_toArray, List.map_cons, List.map_nil]); first | done | rfl | (simp only [List.length_drop, List.length_take]; rfl)) ?_; (with_reducible refine (moraineref02_Sum.calls k _ _ y169 t172 _ ?side1 ?side2 A4.out).mono ?_); (case side1 => repeat (first | exact (Kd.R_reads' HO171.out).2.2 | (with_reducible refine Kd.C_alloc ?_ _) | (with_reducible refine Kd.C_drewN ?_ _) | (with_reducible refine Kd.C_drew ?_))); (case side2 => exact (Kd.R_reads' HO171.out).2.1); rintro e w' ⟨rfl, ⟨nd, rfl⟩⟩; refine ⟨_, rfl, ?_⟩) | ((with_reducible refine gate_callee (f := 39) rfl ?_); refine goesL_ (some 14) rfl rfl Tryd.func39 (by kernel_rfl) rfl #[.int .u32 t172] rfl (by (try simp only [List.map_toArray, List.map_cons, List.map_nil]); first | done | rfl | (simp only [List.length_drop, List.length_take]; rfl)) ?_; (with_reducible refine (moraineref02_Mask.calls t172 t173 _ A5.out).mono ?_); rintro e w' ⟨rfl, ⟨nd, rfl⟩⟩; refine ⟨_, rfl, ?_⟩) | ((with_reducible refine gate_callee (f := 44) rfl ?_); refine goesL_ (some 16) rfl rfl Tryd.func44 (by kernel_rfl) rfl #[.int .u64 (IntKind.u64.wrap (t173)), .int .i64 4] rfl (by (try simp only [List.map_toArray, List.map_cons, List.map_nil]); first | done | rfl | (simp only [List.length_drop, List.length_take]; rfl)) ?_; (with_reducible refine (moraineref01_Fixed.calls k (IntKind.u64.wrap (t173)) 4 t174 _ A6.out).mono ?_); rintro e w14 ⟨v175, rfl, ho0, hb⟩; refine ⟨_, rfl, ?_⟩; have n0_ := Aside0.mk (Kd.R_elder' (by (with_reducible repeat (first | apply Kd.R_alloc | apply Kd.R_drewN | apply Kd.R_drew)); exact HO171.out) (Kd.R_base ho0) hb); have n1_ := Aside0.mk (Kd.R_lower (Kd.R_new' ho0 (Kd.R_lt (by (with_reducible repeat (first | apply Kd.R_alloc | apply Kd.R_drewN | apply Kd.R_drew)); exact HO171.out))) (below_size (by repeat (first | (with_reducible first | exact HB.out | apply below_alloc | apply pw_below_drewN | apply below_drew1) | exact HB.out)))); have n2_ := Aside0.mk (below_step (by repeat (first | (with_reducible first | exact HB.out | apply below_alloc | apply pw_below_drewN | apply below_drew1) | exact HB.out)) hb); clear HO171; clear HB; have HO171 := n0_; have HO176 := n1_; have HB := n2_; clear n0_ n1_ n2_; (try clear hb); (try clear hb2); (try clear hk); (try clear hi); (try clear ho0)) | ((with_reducible refine gate_callee (f := 44) rfl ?_); refine goesL_ (some 21) rfl rfl Tryd.func44 (by kernel_rfl) rfl #[.int .u64 (IntKind.u64.wrap ((l1.length : Int))), .int .i64 2] rfl (by (try simp only [List.map_toArray, List.map_cons, List.map_nil]); first | done | rfl | (simp only [List.length_drop, List.length_take]; rfl)) ?_; (with_reducible refine (moraineref01_Fixed.calls k (IntKind.u64.wrap ((l1.length : Int))) 2 t177 _ A7.out).mono ?_); rintro e w15 ⟨v178, rfl, ho0, hb⟩; refine ⟨_, rfl, ?_⟩; have n0_ := Aside0.mk (Kd.R_elder' (by (with_reducible repeat (first | apply Kd.R_alloc | apply Kd.R_drewN | apply Kd.R_drew)); exact HO171.out) (Kd.R_base ho0) hb); have n1_ := Aside0.mk (Kd.R_elder' (by (with_reducible repeat (first | apply Kd.R_alloc | apply Kd.R_drewN | apply Kd.R_drew)); exact HO176.out) (Kd.R_base ho0) hb); have n2_ := Aside0.mk (Kd.R_lower (Kd.R_new' (Kd.R_new' ho0 (Kd.R_lt (by (with_reducible repeat (first | apply Kd.R_alloc | apply Kd.R_drewN | apply Kd.R_drew)); exact HO171.out))) (Kd.R_lt (by (with_reducible repeat (first | apply Kd.R_alloc | apply Kd.R_drewN | apply Kd.R_drew)); exact HO176.out))) (below_size (by repeat (first | (with_reducible first | exact HB.out | apply below_alloc | apply pw_below_drewN | apply below_drew1) | exact HB.out)))); have n3_ := Aside0.mk (below_step (by repeat (first | (with_reducible first | exact HB.out | apply below_alloc | apply pw_below_drewN | apply below_drew1) | exact HB.out)) hb); clear HO171; clear HO176; clear HB; have HO171 := n0_; have HO176 := n1_; have HO179 := n2_; have HB := n3_; clear n0_ n1_ n2_ n3_; (try clear hb); (try clear hb2); (try clear hk); (try clear hi); (try clear ho0); obtain ⟨Ao17, co17, eo17⟩ := Kd.R_slice HO179.out; subst eo17) | ((with_reducible refine gate_builtin (b := .append) (xs := #[.tmp 17, .tmp 21]) rfl ?_); at_builtin; refine Kd.R_append_rows (Kd.int .u8) (w0 := w) w.heap.size rfl (.tmp 17) (.tmp 21) 22 5 (.int .u8 0) 1 rfl Tryd.underlying22 info5 rfl (by decide) (by omega) v175 t174 t177 _ _ _ (fun k_ => some k_ ≠ (.slice Ao13 y169.length co13 : Value).ownBlock ∧ some k_ ≠ (.slice Ao17 t177.length co17 : Value).ownBlock) (fun _ => False) rfl rfl ?aO ?aR (fun _ _ h => h) (fun _ h => h.elim) ?aF ?aB ?aS ?aL ?_; (case aR => repeat (first | exact (Kd.R_reads' HO179.out).2.2 | (with_reducible refine Kd.C_alloc ?_ _) | (with_reducible refine Kd.C_drewN ?_ _) | (with_reducible refine Kd.C_drew ?_))); (case aB => exact (by repeat (first | (with_reducible first | exact HB.out | apply below_alloc | apply pw_below_drewN | apply below_drew1) | exact HB.out))); (case aF => exact (fun k_ hk => ⟨Kd.fresh' (Kd.R_lt (by (with_reducible repeat (first | apply Kd.R_alloc | apply Kd.R_drewN | apply Kd.R_drew)); exact HO171.out)) k_ hk, Kd.fresh' (Kd.R_lt (by (with_reducible repeat (first | apply Kd.R_alloc | apply Kd.R_drewN | apply Kd.R_drew)); exact HO179.out)) k_ hk⟩)); (case aO => exact (by (with_reducible repeat (first | apply Kd.R_alloc | apply Kd.R_drewN | apply Kd.R_drew)); exact Kd.R_mono HO176.out (fun _ hk => ⟨hk.1.2, hk.2⟩))); (case aS => exact (below_size (by repeat (first | (with_reducible first | exact HB.out | apply below_alloc | apply pw_below_drewN | apply below_drew1) | exact HB.out)))); (case aL => have := LMc8.out; omega); intro v181 w16 ho hb hg hat; rw [← Ny180.out] at ho; have n0_ := Aside0.mk (Kd.R_after (ok := (fun k_ => some k_ ≠ (.slice Ao17 t177.length co17 : Value).ownBlock)) (by (with_reducible repeat (first | apply Kd.R_alloc | apply Kd.R_drewN | apply Kd.R_drew)); exact Kd.R_mono HO171.out (fun _ hk => ⟨hk.2, hk.1.2⟩)) hg hat); have n1_ := Aside0.mk (Kd.R_after (ok := (fun k_ => some k_ ≠ (.slice Ao13 y169.length co13 : Value).ownBlock)) (by (with_reducible repeat (first | apply Kd.R_alloc | apply Kd.R_drewN | apply Kd.R_drew)); exact Kd.R_mono HO179.out (fun _ hk => ⟨hk.1.2, hk.2⟩)) hg hat); have n2_ := Aside0.mk (hb); have n3_ := Aside0.mk (ho); clear HO171; clear HO179; clear HB; clear HO176; have HO171 := n0_; have HO179 := n1_; have HB := n2_; have HO182 := n3_; clear n0_ n1_ n2_ n3_; clear ho hb hg hat) | ((with_reducible refine gate_builtin (b := .append) (xs := #[.tmp 23, .tmp 24]) rfl ?_); at_builtin; refine Kd.R_append_rows (Kd.int .u8) (w0 := w) w.heap.size rfl (.tmp 23) (.tmp 24) 22 5 (.int .u8 0) 1 rfl Tryd.underlying22 info5 rfl (by decide) (by omega) v181 y180 y169 _ _ _ (fun k_ => some k_ ≠ (.slice Ao13 y169.length co13 : Value).ownBlock ∧ some k_ ≠ (.slice Ao17 t177.length co17 : Value).ownBlock) (fun _ => False) rfl rfl ?aO ?aR (fun _ _ h => h) (fun _ h => h.elim) ?aF ?aB ?aS ?aL ?_; (case aR => repeat (first | exact (Kd.R_reads' HO171.out).2.2 | (with_reducible refine Kd.C_alloc ?_ _) | (with_reducible refine Kd.C_drewN ?_ _) | (with_reducible refine Kd.C_drew ?_))); (case aB => exact (by repeat (first | (with_reducible first | exact HB.out | apply below_alloc | apply pw_below_drewN | apply below_drew1) | exact HB.out))); (case aF => exact (fun k_ hk => ⟨Kd.fresh' (Kd.R_lt (by (with_reducible repeat (first | apply Kd.R_alloc | apply Kd.R_drewN | apply Kd.R_drew)); exact HO171.out)) k_ hk, Kd.fresh' (Kd.R_lt (by (with_reducible repeat (first | apply Kd.R_alloc | apply Kd.R_drewN | apply Kd.R_drew)); exact HO179.out)) k_ hk⟩)); (case aO => exact (by (with_reducible repeat (first | apply Kd.R_alloc | apply Kd.R_drewN | apply Kd.R_drew)); exact HO182.out)); (case aS => exact (below_size (by repeat (first | (with_reducible first | exact HB.out | apply below_alloc | apply pw_below_drewN | apply below_drew1) | exact HB.out)))); (case aL => have := LMc9.out; omega); intro v184 w18 ho hb hg hat; rw [← Ny183.out] at ho; have n0_ := Aside0.mk (Kd.R_after (ok := (fun k_ => some k_ ≠ (.slice Ao17 t177.length co17 : Value).ownBlock)) (by (with_reducible repeat (first | apply Kd.R_alloc | apply Kd.R_drewN | apply Kd.R_drew)); exact HO171.out) hg hat); have n1_ := Aside0.mk (Kd.R_after (ok := (fun k_ => some k_ ≠ (.slice Ao13 y169.length co13 : Value).ownBlock)) (by (with_reducible repeat (first | apply Kd.R_alloc | apply Kd.R_drewN | apply Kd.R_drew)); exact HO179.out) hg hat); have n2_ := Aside0.mk (hb); have n3_ := Aside0.mk (ho); clear HO171; clear HO179; clear HB; clear HO182; have HO171 := n0_; have HO179 := n1_; have HB := n2_; have HO185 := n3_; clear n0_ n1_ n2_ n3_; clear ho hb hg hat))
        go_ret
        exact ⟨_, by first | rfl | (simp [errW_none, errW_some] <;> rfl) | (simp [*, errW_none, errW_some] <;> rfl), by (with_reducible repeat (first | apply Kd.R_alloc | apply Kd.R_drewN | apply Kd.R_drew)); exact Kd.R_mono HO185.out (fun _ hk => trivial), by repeat (first | (with_reducible first | exact HB.out | apply below_alloc | apply pw_below_drewN | apply below_drew1) | exact HB.out)⟩
      · rw [if_neg c9] at H
        exact absurd H (by simp)
    · rw [if_neg c8] at H
      exact absurd H (by simp)
  · rw [if_neg c3] at H
    exact absurd H (by simp)

end Go.Proofs.YtmpkigambfghgaaDoor.G

/- Contracts typed by hand: the journal's pieces: what a record adds, what it costs; the program's and the reference's functions come to them -/
namespace Go.Proofs.YtmpkigambfghgaaDoor.G
open Go.RowKit Go.Proofs.YtmpkigambfghgaaDoorW.PrintWords Go.Proofs.YtmpkigambfghgaaDoorW.PrintLast Go.Proofs.YtmpkigambfghgaaDoorW.PrintMore
attribute [local go_sem] max2_int min2_int max_two min_two max_three min_three max_four min_four
set_option linter.unusedVariables false
set_option linter.unusedSimpArgs false

/-! the journal's pieces: what a record adds, what it costs; the program's and the reference's functions come to them -/
def fourJ (x : Nat) : List Int := [((x % 256 : Nat) : Int), ((x / 256 % 256 : Nat) : Int), ((x / 65536 % 256 : Nat) : Int), ((x / 16777216 % 256 : Nat) : Int)]
def twoJ (n : Nat) : List Int := [((n % 256 : Nat) : Int), ((n / 256 % 256 : Nat) : Int)]
def kindJ (first last : Bool) : Nat := if first then (if last then 1 else 2) else (if last then 4 else 3)
def padJ (blk p : Nat) : Nat := if blk - p < 7 then blk - p else 0
def mostJ (blk p : Nat) : Nat := if blk - p < 7 then blk - 7 else blk - p - 7
def pieceJ (kind : Nat) (d : List Int) : List Int := fourJ (sumN kind d) ++ twoJ d.length ++ [(kind : Int)] ++ d
def addJ (blk : Nat) : Nat → Nat → Bool → List Int → List Int
  | 0, _, _, _ => []
  | k + 1, p, first, r =>
    if r.length ≤ mostJ blk p then List.replicate (padJ blk p) 0 ++ pieceJ (kindJ first true) r
    else List.replicate (padJ blk p) 0 ++ pieceJ (kindJ first false) (r.take (mostJ blk p)) ++ addJ blk k 0 false (r.drop (mostJ blk p))
def costJ (blk : Nat) : Nat → Nat → Nat → Nat
  | 0, _, _ => 0
  | k + 1, p, n => if n ≤ mostJ blk p then padJ blk p + 7 + n else padJ blk p + 7 + mostJ blk p + costJ blk k 0 (n - mostJ blk p)
theorem piece_len (kind : Nat) (d : List Int) : (pieceJ kind d).length = 7 + d.length := by simp [pieceJ, fourJ, twoJ]; omega
theorem add_len (blk : Nat) : ∀ (k p : Nat) (first : Bool) (r : List Int), (addJ blk k p first r).length = costJ blk k p r.length
  | 0, _, _, _ => rfl
  | k + 1, p, first, r => by
    unfold addJ costJ
    split
    · rw [List.length_append, List.length_replicate, piece_len]; omega
    · rw [List.length_append, List.length_append, List.length_replicate, piece_len, add_len blk k, List.length_take, List.length_drop]; omega
theorem most0 {blk : Nat} (h : 32 ≤ blk) : 25 ≤ mostJ blk 0 := by unfold mostJ; split <;> omega
theorem pad_most {blk : Nat} (h : 32 ≤ blk) (p : Nat) : padJ blk p ≤ 6 ∧ (padJ blk p = 0 ∨ 25 ≤ mostJ blk p) ∧ mostJ blk p ≤ blk := by unfold padJ mostJ; split <;> omega
theorem cost_le (blk : Nat) (h : 32 ≤ blk) : ∀ (k p n : Nat), costJ blk k p n ≤ (if p = 0 then 7 else 14) + 2 * n + 7
  | 0, _, _ => by unfold costJ; omega
  | k + 1, p, n => by
    unfold costJ
    have hp := pad_most h p
    have hp0 : p = 0 → padJ blk p = 0 := by unfold padJ; split <;> omega
    have hm0 : p = 0 → 25 ≤ mostJ blk p := fun e => e ▸ most0 h
    split
    · split <;> omega
    · have ih := cost_le blk h k 0 (n - mostJ blk p)
      rw [if_pos rfl] at ih
      split <;> omega
/-- enough rounds -/
def Enough (blk k p n : Nat) : Prop := n + (if p = 0 then 1 else 2) ≤ k
theorem Enough.next {blk k p n : Nat} (h : 32 ≤ blk) (he : Enough blk (k + 1) p n) (hn : ¬ n ≤ mostJ blk p) : Enough blk k 0 (n - mostJ blk p) := by
  unfold Enough at *
  rw [if_pos rfl]
  by_cases hp : p = 0
  · subst hp
    rw [if_pos rfl] at he
    have := most0 h
    omega
  · rw [if_neg hp] at he; omega
theorem add_more (blk : Nat) (h : 32 ≤ blk) : ∀ (k p : Nat) (first : Bool) (r : List Int) (j : Nat), Enough blk k p r.length → k ≤ j → addJ blk j p first r = addJ blk k p first r
  | 0, p, _, r, _, hk, _ => by unfold Enough at hk; split at hk <;> omega
  | k + 1, p, first, r, 0, _, hj => by omega
  | k + 1, p, first, r, j + 1, hk, hj => by
    unfold addJ
    split
    · rfl
    · rename_i hn
      rw [add_more blk h k 0 false (r.drop (mostJ blk p)) j (by rw [List.length_drop]; exact hk.next h hn) (by omega)]
theorem cost_more (blk : Nat) (h : 32 ≤ blk) : ∀ (k p n j : Nat), Enough blk k p n → k ≤ j → costJ blk j p n = costJ blk k p n
  | 0, p, n, _, hk, _ => by unfold Enough at hk; split at hk <;> omega
  | k + 1, p, n, 0, _, hj => by omega
  | k + 1, p, n, j + 1, hk, hj => by
    unfold costJ
    split
    · rfl
    · rename_i hn
      rw [cost_more blk h k 0 (n - mostJ blk p) j (hk.next h hn) (by omega)]
/-- what a record adds behind so many bytes; what it costs -/
def addR (blk p : Nat) (r : List Int) : List Int := addJ blk (r.length + 2) p true r
def costR (blk p n : Nat) : Nat := costJ blk (n + 2) p n
theorem addR_len (blk p : Nat) (r : List Int) : (addR blk p r).length = costR blk p r.length := add_len _ _ _ _ _
theorem enough_self (blk p n : Nat) : Enough blk (n + 2) p n := by unfold Enough; split <;> omega
theorem costR_le (blk : Nat) (h : 32 ≤ blk) (p n : Nat) : costR blk p n ≤ 2 * n + 21 := by
  have := cost_le blk h (n + 2) p n
  unfold costR
  split at this <;> omega
theorem fourJ_byt (x : Nat) : Byt (fourJ x) := fun y hy => by
  simp only [fourJ, List.mem_cons, List.not_mem_nil, or_false] at hy
  rcases hy with rfl | rfl | rfl | rfl <;> omega
theorem twoJ_byt (x : Nat) : Byt (twoJ x) := fun y hy => by
  simp only [twoJ, List.mem_cons, List.not_mem_nil, or_false] at hy
  rcases hy with rfl | rfl <;> omega
theorem kindJ_range (a b : Bool) : 1 ≤ kindJ a b ∧ kindJ a b ≤ 4 := by cases a <;> cases b <;> decide
theorem piece_byt {kind : Nat} (hk : kind < 256) {d : List Int} (hd : Byt d) : Byt (pieceJ kind d) :=
  (((fourJ_byt _).append (twoJ_byt _)).append (Byt.cons (by omega) (by omega) Byt.nil)).append hd
theorem zeros_byt (n : Nat) : Byt (List.replicate n 0) := fun x hx => by obtain ⟨_, rfl⟩ := List.mem_replicate.1 hx; omega
theorem Byt.drop {l : List Int} (h : Byt l) (n : Nat) : Byt (l.drop n) := fun x hx => h x (List.mem_of_mem_drop hx)
theorem add_byt (blk : Nat) : ∀ (k p : Nat) (first : Bool) (r : List Int), Byt r → Byt (addJ blk k p first r)
  | 0, _, _, _, _ => Byt.nil
  | k + 1, p, first, r, h => by
    unfold addJ
    have h1 := kindJ_range first true
    have h2 := kindJ_range first false
    split
    · exact (zeros_byt _).append (piece_byt (by omega) h)
    · exact ((zeros_byt _).append (piece_byt (by omega) (h.take _))).append (add_byt blk k 0 false _ (h.drop _))
theorem mn_nat (a b : Nat) : mn (a : Int) (b : Int) = ((min a b : Nat) : Int) := by unfold mn; omega
theorem kindOf_eq (k : Nat) (a b : Bool) (hk : 1 ≤ k) : journal_kindOf.f k a b = some ((kindJ a b : Nat) : Int) := by
  obtain ⟨k, rfl⟩ : ∃ m, k = m + 1 := ⟨k - 1, by omega⟩
  unfold journal_kindOf.f kindJ
  cases a <;> cases b <;> simp [journal_kindOf.j0]
theorem seven_eq (s n kind : Nat) : ([((s : Int)) % 256, ((s : Int) / 256) % 256, ((s : Int) / 65536) % 256, ((s : Int) / 16777216) % 256, (n : Int) % 256, ((n : Int) / 256) % 256, (kind : Int)] : List Int) = fourJ s ++ twoJ n ++ [(kind : Int)] := by
  simp [fourJ, twoJ]
theorem mod_next (blk p : Nat) (hp : p < blk) (h1 : 32 ≤ blk) : (p + padJ blk p + 7 + mostJ blk p) % blk = 0 := by
  have e : p + padJ blk p + 7 + mostJ blk p = blk ∨ p + padJ blk p + 7 + mostJ blk p = blk + blk := by unfold padJ mostJ; split <;> omega
  rcases e with e | e <;> rw [e]
  · rw [Nat.mod_self]
  · rw [Nat.add_mod_left, Nat.mod_self]

end Go.Proofs.YtmpkigambfghgaaDoor.G

/- Contracts typed by hand: journal: a Writer's none, room, Add by hand -/
namespace Go.Proofs.YtmpkigambfghgaaDoor.G
open Go.RowKit Go.Proofs.YtmpkigambfghgaaDoorW.PrintWords Go.Proofs.YtmpkigambfghgaaDoorW.PrintLast Go.Proofs.YtmpkigambfghgaaDoorW.PrintMore
attribute [local go_sem] max2_int min2_int max_two min_two max_three min_three max_four min_four
set_option linter.unusedVariables false
set_option linter.unusedSimpArgs false

/-! journal: a Writer's none, room, Add by hand -/
/-- a writer's two numbers -/
def WrAt (w : World) (g : Nat) (blk size : Int) : Prop := w.heap[g]? = some (.cells #[.int .i64 blk, .int .i64 size] 25 (0, 0))
theorem WrAt.cells {w : World} {g : Nat} {blk size : Int} (h : WrAt w g blk size) : w.cell? ⟨g, 0, none⟩ = some (.int .i64 blk) ∧ w.cell? ⟨g, 1, none⟩ = some (.int .i64 size) ∧ w.frozen? ⟨g, 1, none⟩ = false := ⟨blk_cell h 0, blk_cell h 1, blk_frozen h 1⟩
theorem WrAt.below {w w1 : World} {g : Nat} {blk size : Int} (h : WrAt w g blk size) (hb : Below w.heap.size w w1) : WrAt w1 g blk size := (hb.block g (blk_lt h)).trans h
theorem wr_none (g : Nat) (blk size : Int) (hb : blk ≠ 0) (w : World) (h : WrAt w g blk size) :
    Calls Tryd.prog 27 #[.pointer (some ⟨g, 0, none⟩)] w fun e w' => e = .returned (.bool false) ∧ w = w' := by
  have h0 := h.cells.1
  have hb' : (blk == 0) = false := by simpa using hb
  go_enter Tryd.func27, Tryd.ntmps27
  go_wp2
  go_ret
  exact ⟨rfl, rfl⟩
theorem wr_room (g blk p : Nat) (size : Int) (hp : p < blk) (h1 : 32 ≤ blk) (h2 : blk ≤ 32768) (w : World) (h : WrAt w g (blk : Int) size) :
    Calls Tryd.prog 28 #[.pointer (some ⟨g, 0, none⟩), .int .i64 (p : Int)] w fun e w' => e = .returned (.tuple #[.int .i64 ((padJ blk p : Nat) : Int), .int .i64 ((mostJ blk p : Nat) : Int)]) ∧ Drawn0 w w' := by
  have h0 := h.cells.1
  unfold padJ mostJ
  by_cases c : blk - p < 7
  · have c1 : decide ((blk : Int) - (p : Int) < 7) = true := decide_eq_true (by omega)
    rw [if_pos c, if_pos c]
    go_enter Tryd.func28, Tryd.ntmps28
    go_wp2
    go_quiet (fail)
    all_goals go_wp2
    go_ret2
    exact ⟨by rw [show ((blk - p : Nat) : Int) = (blk : Int) - (p : Int) by omega, show ((blk - 7 : Nat) : Int) = (blk : Int) - 7 by omega]; rfl, ⟨_, rfl⟩⟩
  · have c1 : decide ((blk : Int) - (p : Int) < 7) = false := decide_eq_false (by omega)
    rw [if_neg c, if_neg c]
    go_enter Tryd.func28, Tryd.ntmps28
    go_wp2
    go_ret2
    exact ⟨by rw [show ((blk - p - 7 : Nat) : Int) = (blk : Int) - (p : Int) - 7 by omega]; rfl, Drawn0.refl _⟩
theorem seven_is (s n : Nat) (kd : Int) (hs : s < 4294967296) (hn : n < 65536) : ([(s : Int) % 256, (s : Int) / 256 % 256, (s : Int) / 65536 % 256, (s : Int) / 16777216, (n : Int) % 256, (n : Int) / 256, kd] : List Int) = fourJ s ++ twoJ n ++ [kd] := by
  have h1 : (s : Int) / 16777216 = (s : Int) / 16777216 % 256 := by omega
  have h2 : (n : Int) / 256 = (n : Int) / 256 % 256 := by omega
  rw [h1, h2]
  simp [fourJ, twoJ]
set_option maxHeartbeats 8000000 in
set_option maxRecDepth 100000 in
theorem wr_add (g blk : Nat) (size : Nat) (A : Option Addr) (c : Nat) (r : List Int) (w : World) (h1 : 32 ≤ blk) (h2 : blk ≤ 32768) (hs : size ≤ 4611686018427387904 + 1099511627776) (h : WrAt w g (blk : Int) (size : Int)) (hT : TabAt w)
    (hr : Kd.C (Kd.int .u8) w A r.length r) (hc : r.length ≤ c) (hb : Byt r) (hl : r.length ≤ 2097152) :
    Calls Tryd.prog 10 #[.pointer (some ⟨g, 0, none⟩), .slice A r.length c] w fun e w' => ∃ v : Value, e = .returned (.tuple #[v, .int .i64 0]) ∧ Kd.R (Kd.int .u8) 5 w' w.heap.size (fun _ => True) v (addR blk (size % blk) r) ∧
      WrAt w' g (blk : Int) ((size + (addR blk (size % blk) r).length : Nat) : Int) ∧ ∃ w1, Below w.heap.size w w1 ∧ w' = w1.setCell ⟨g, 1, none⟩ (.int .i64 ((size + (addR blk (size % blk) r).length : Nat) : Int)) := by
  have H := Aside0.mk h
  have HR := Aside0.mk hr
  have HC := Aside0.mk hc
  have HBY := Aside0.mk hb
  have HL := Aside0.mk hl
  have HT := Aside0.mk hT
  have HLEN := Aside0.mk (costR_le blk h1 (size % blk) r.length)
  rw [← addR_len] at HLEN
  obtain ⟨L, hL⟩ : ∃ L, addR blk (size % blk) r = L := ⟨_, rfl⟩
  have HLL := Aside0.mk hL
  rw [hL] at HLEN ⊢
  have hs0 := h.cells.1
  have hs1 := h.cells.2.1
  have hinfo : (Tryd.prog.info? 5).map (fun i => (i.zero, i.size, i.bytes)) = some (some (.int .u8 0), 1, 1) := by kernel_rfl
  have HI := Aside0.mk hinfo
  have hb0 : decide ((r.length : Int) > 2097152) = false := decide_eq_false (by omega)
  have hmod : (size : Int) % (blk : Int) = ((size % blk : Nat) : Int) := by omega
  have hblk0 : ((blk : Int) == 0) = false := by simp; omega
  clear h hr hc hb hT hL hinfo
  go_enter Tryd.func10, Tryd.ntmps10
  go_wp2_with fail
  (with_reducible refine (wr_none g _ _ (by omega) _ H.out).mono ?_)
  rintro e w1 ⟨rfl, rfl⟩
  go_wp2_with fail
  go_quiet (fail)
  all_goals go_wp2
  go_loopg [1, 6, 7, 8] (r.length + 2) (fun kq v1 v6 v7 v8 wr => ∃ (r' out : List Int) (A' : Option Addr) (c' p : Nat) (first : Bool), v1 = .slice A' r'.length c' ∧ v7 = .int .i64 (p : Int) ∧ v8 = .bool first ∧ p < blk ∧ r'.length ≤ 2097152 ∧ Aside0 (Enough blk kq p r'.length) ∧ Aside0 (r'.length ≤ c') ∧ Aside0 (Byt r') ∧ Aside0 (out ++ addJ blk kq p first r' = L) ∧ Aside0 (Kd.C (Kd.int .u8) w A' r'.length r') ∧ Aside0 (Kd.R (Kd.int .u8) 5 wr w.heap.size (fun _ => True) v6 out) ∧ Aside0 (Below w.heap.size w wr))
  case atStart => exact ⟨r, [], A, c, size % blk, true, rfl, by rw [hmod], rfl, Nat.mod_lt _ (by omega), hl, ⟨enough_self _ _ _⟩, HC, HBY, ⟨HLL.out⟩, HR, ⟨Kd.R_nil _ _ _ _ _⟩, ⟨pw_below_drewN (Below.refl _ _) _⟩⟩
  case round =>
    clear hs0 hs1 hb0 hmod
    obtain ⟨r', out, A', c', p, first, rfl, rfl, rfl, hp, hrl, HE, HC', HBY', HOUT, HR', HO, HB⟩ := hrel
    have HN := Aside0.mk hl
    clear hl
    cases gk with
    | zero => exact absurd HE.out (by unfold Enough; split <;> omega)
    | succ k =>
      have hpm := pad_most h1 p
      obtain ⟨pad, hpad⟩ : ∃ pad, padJ blk p = pad := ⟨_, rfl⟩
      obtain ⟨most, hmost⟩ : ∃ most, mostJ blk p = most := ⟨_, rfl⟩
      have HROOM := Aside0.mk (wr_room g blk p size hp h1 h2 wr (H.out.below HB.out))
      rw [hpad, hmost] at hpm
      rw [hpad, hmost] at HROOM
      have HPAD := Aside0.mk hpad
      have HMOST := Aside0.mk hmost
      have hpad6 := hpm.1
      have hmostb := hpm.2.2
      clear hpad hmost hpm
      obtain ⟨n, hn⟩ : ∃ n, min most r'.length = n := ⟨_, rfl⟩
      have hn1 : n ≤ r'.length := by omega
      have hn2 : n ≤ 32768 := by omega
      have hmn1 : (if (r'.length : Int) < (most : Int) then (r'.length : Int) else (most : Int)) = (n : Int) := by split <;> omega
      have hmn2 : (if r'.length < most then (r'.length : Int) else (most : Int)) = (n : Int) := by split <;> omega
      have HNN := Aside0.mk hn
      have hbl1 := HL.out
      clear hn hbl1
      go_wp2_with fail
      (with_reducible refine HROOM.out.mono ?_)
      rintro e w2 ⟨rfl, hd⟩
      have HB2 := Aside0.mk (below_step HB.out hd.below)
      have HO2 := Aside0.mk (Kd.R_below HO.out hd.below)
      clear hd
      have HL1 := Aside0.mk (show out.length + (addJ blk (k + 1) p first r').length = L.length by rw [← List.length_append, HOUT.out])
      have HOB := Aside0.mk (show out.length ≤ 5000000 by have := HL1.out; have := HLEN.out; have := HL.out; omega)
      go_wp2_with (first
        | ((with_reducible refine gate_builtin (b := .append) (xs := #[.tmp 34, .tmp 35]) rfl ?_); at_builtin; refine Kd.R_append_zeros (Kd.int .u8) (w0 := w) w.heap.size rfl (.tmp 34) (.tmp 35) 22 3 5 (.int .u8 0) 1 rfl Tryd.underlying22 Tryd.underlying3 HI.out rfl (by decide) (by omega) u6 out (0 : Int) (pad : Int) (fun _ => True) rfl rfl ?aZ (fun _ _ => trivial) ?aO ?a0 ?aB ?aS ?aL ?_; (case aZ => exact rfl); (case aO => exact HO2.out); (case a0 => exact Int.natCast_nonneg _); (case aB => exact HB2.out); (case aS => exact HB2.out.size); (case aL => have := HOB.out; rw [Int.toNat_natCast]; omega); intro v3 w3 ho hb hg hat; rw [Int.toNat_natCast] at ho; have HO3 := Aside0.mk ho; have HB3 := Aside0.mk hb; clear ho hb hg hat))
      obtain ⟨last, hlast⟩ : ∃ last, decide (r'.length ≤ most) = last := ⟨_, rfl⟩
      have hnl : (n = r'.length) ↔ last = true := by rw [← hlast]; simp; have := HNN.out; omega
      have hq1 : ((n : Int) == (r'.length : Int)) = last := by
        rw [Bool.eq_iff_iff, ← hnl]; simp only [beq_iff_eq, Int.ofNat_inj]
      have hq2 : (n == r'.length) = last := by
        rw [Bool.eq_iff_iff, ← hnl]; simp
      obtain ⟨kd, hkd⟩ : ∃ kd : Int, ((kindJ first last : Nat) : Int) = kd := ⟨_, rfl⟩
      have hkr := kindJ_range first last
      have hk0 : 0 ≤ kd ∧ kd < 256 := by omega
      have HKD := Aside0.mk hkd
      have HLAST := Aside0.mk hlast
      have htl : (r'.take n).length = n := by rw [List.length_take]; omega
      have hdl : (r'.drop n).length = r'.length - n := by rw [List.length_drop]
      have HKIND := Aside0.mk (journal_kindOf.calls 1 first last _ w3 (kindOf_eq 1 first last (Nat.le_refl _)))
      rw [hkd] at HKIND
      obtain ⟨sm, hsm⟩ : ∃ sm : Int, ((sumN kd (r'.take n) : Nat) : Int) = sm := ⟨_, rfl⟩
      have hsm0 : 0 ≤ sm ∧ sm < 4294967296 := by have := sumN_lt kd (r'.take n); omega
      have HSUM := Aside0.mk (fun W hW => journal_sumOf.calls (n + 2) kd A' c' (r'.take n) _ W (Kd.C_below (Kd.C_take HR'.out hn1) hW) (by rw [htl]; exact Nat.le_trans hn1 HC'.out) (sumOf_eq (n + 2) kd (r'.take n) hk0.1 hk0.2 (HBY'.out.take _) (by rw [htl]; omega) (Nat.le_of_eq (by rw [htl]))) (HT.out.below hW))
      rw [hsm, htl] at HSUM
      have HSM := Aside0.mk hsm
      obtain ⟨i0, hi0, _, hsz0, _⟩ := info_parts HI.out
      have hcut1 := cut_to (P := Tryd.prog) 22 5 .i64 Tryd.underlying22 hi0 A' r'.length c' (n : Int) (by omega) (by omega) HC'.out
      have hcut2 := cut_from (P := Tryd.prog) 22 5 .i64 Tryd.underlying22 hi0 1 hsz0 A' r'.length c' (n : Int) (by omega) (by omega)
      rw [Int.toNat_natCast] at hcut1 hcut2
      have hrd := Kd.C_drop HR'.out hn1 HC'.out
      rw [show n * (Kd.int .u8).sz = n * 1 from rfl] at hrd
      obtain ⟨A2, hA2⟩ : ∃ A2, (if c' = n then A' else A'.map (·.add (n * 1))) = A2 := ⟨_, rfl⟩
      rw [hA2] at hcut2 hrd
      have HRD := Aside0.mk hrd
      have HDL := Aside0.mk hdl
      have HTL := Aside0.mk htl
      have HNL := Aside0.mk hnl
      have hc2 : n ≤ c' := Nat.le_trans hn1 HC'.out
      clear hlast hkd hkr hsm hrd hA2 hi0 hsz0 htl hdl hnl
      rw [hq1]
      (with_reducible refine HKIND.out.mono ?_)
      rintro e w4 ⟨rfl, hd⟩
      have HB4 := Aside0.mk (below_step HB3.out hd.below)
      have HO4 := Aside0.mk (Kd.R_below HO3.out hd.below)
      clear hd
      go_wp2_with fail
      (with_reducible refine (HSUM.out _ HB4.out).mono ?_)
      rintro e w5 ⟨rfl, hb⟩
      have HB5 := Aside0.mk (below_step HB4.out hb)
      have HO5 := Aside0.mk (Kd.R_below HO4.out hb)
      clear hb
      obtain ⟨seven, hseven⟩ : ∃ s_ : List Int, s_ = ([sm % 256, sm / 256 % 256, sm / 65536 % 256, sm / 16777216, (n : Int) % 256, (n : Int) / 256, kd] : List Int) := ⟨_, rfl⟩
      have h7l : seven.length = 7 := by rw [hseven]; rfl
      have H7 := Aside0.mk hseven
      clear hseven
      have HP := Aside0.mk (show (out ++ List.replicate pad (0 : Int)).length ≤ 6000000 by rw [List.length_append, List.length_replicate]; have := HOB.out; omega)
      have HPC := Aside0.mk (show out ++ List.replicate pad (0 : Int) ++ seven ++ r'.take n = out ++ (List.replicate (padJ blk p) 0 ++ pieceJ (kindJ first last) (r'.take n)) by
        unfold pieceJ
        rw [H7.out, ← HSM.out, seven_is _ _ kd (sumN_lt _ _) (by omega), HPAD.out, HTL.out, ← HKD.out]
        simp only [List.append_assoc])
      have hcase : (last = true ∧ (((kd == 1) = true ∧ (kd == 4) = false) ∨ ((kd == 1) = false ∧ (kd == 4) = true))) ∨ (last = false ∧ (kd == 1) = false ∧ (kd == 4) = false) := by
        rw [← HKD.out]
        cases first <;> cases last <;> decide
      have HLS := Aside0.mk (show last = true → out ++ List.replicate pad (0 : Int) ++ seven ++ r'.take n = L by
        intro hl_
        have h3 : r'.length ≤ mostJ blk p := by rw [HMOST.out]; have := HLAST.out; rw [hl_] at this; exact of_decide_eq_true this
        have h4 : r'.take n = r' := by rw [HNL.out.2 hl_, List.take_length]
        have h5 := HOUT.out
        unfold addJ at h5
        rw [if_pos h3] at h5
        rw [HPC.out, hl_, h4]
        exact h5)
      have HNX := Aside0.mk (show last = false → (out ++ List.replicate pad (0 : Int) ++ seven ++ r'.take n) ++ addJ blk k 0 false (r'.drop n) = L ∧ Enough blk k 0 (r'.length - n) ∧ (p + pad + 7 + n) % blk = 0 by
        intro hl_
        have h3 : ¬ r'.length ≤ mostJ blk p := by rw [HMOST.out]; have := HLAST.out; rw [hl_] at this; exact of_decide_eq_false this
        have h4 : mostJ blk p = n := by rw [HMOST.out] at h3 ⊢; have := HNN.out; omega
        have h5 := HOUT.out
        unfold addJ at h5
        rw [if_neg h3, h4] at h5
        refine ⟨?_, ?_, ?_⟩
        · rw [HPC.out, hl_, List.append_assoc]
          exact h5
        · have := HE.out.next h1 h3
          rwa [h4] at this
        · have := mod_next blk p hp h1
          rwa [HPAD.out, h4] at this)
      rcases hcase with ⟨hl_, hcase⟩ | ⟨hl_, e1, e4⟩
      · have hL8 := Aside0.mk (HLS.out hl_)
        have hsz : ((size + L.length : Nat) : Int) = (size : Int) + (L.length : Int) := by omega
        have hLb : L.length ≤ 5000000 := by have := HLEN.out; have := HL.out; omega
        have HSZ := Aside0.mk hsz
        clear hsz hl_ HOUT
        rcases hcase with ⟨e1, e4⟩ | ⟨e1, e4⟩
        all_goals
          go_wp2_with (first
            | ((with_reducible refine gate_dst (N := 70) rfl ?_); refine Kd.R_lit (Kd.int .u8) (w0 := w) w.heap.size 5 ?hg (N := 70) ?hd (xs := ([sm % 256, sm / 256 % 256, sm / 65536 % 256, sm / 16777216, (n : Int) % 256, (n : Int) / 256, kd] : List Int)) (inner := [.int .u8 (sm % 256), .int .u8 (sm / 256 % 256), .int .u8 (sm / 65536 % 256), .int .u8 (sm / 16777216), .int .u8 ((n : Int) % 256), .int .u8 ((n : Int) / 256), .int .u8 kd]) (ok := fun _ => True) (okp := fun _ => True) ?hr ?hp (fun _ hk => hk) trivial ?hB ?hS (by simp) ?_; (case hd => rfl); (case hg => rfl); (case hr => first | (go_simp; done) | (go_simp; rfl)); (case hp => exact Kd.reps_scalar _); (case hB => exact HB5.out); (case hS => exact HB5.out.size); intro v70 w6 ho hb hg hnew; rw [← H7.out] at ho; obtain ⟨A6, c6, rfl, hc6, hr6⟩ := Kd.R_reads ho; have HO6 := Aside0.mk (Kd.R_grown (Kd.R_tight rfl HO5.out) hg (fun _ _ e_ => by cases e_)); have HR6 := Aside0.mk hr6; have HB6 := Aside0.mk hb; clear ho hb hg hnew hc6 hr6)
            | ((with_reducible refine gate_builtin (b := .append) (xs := #[.tmp 52, .tmp 70]) rfl ?_); at_builtin; refine Kd.R_append_rows (Kd.int .u8) (w0 := w) w.heap.size rfl (.tmp 52) (.tmp 70) 22 5 (.int .u8 0) 1 rfl Tryd.underlying22 HI.out rfl (by decide) (by omega) v3 (out ++ List.replicate pad (0 : Int)) seven _ _ _ (fun _ => True) (fun _ => False) rfl rfl ?aO ?aR (fun _ _ h => h) (fun _ h => h.elim) (fun _ _ => trivial) ?aB ?aS ?aL ?_; (case aO => exact Kd.R_mono HO6.out (fun _ _ => trivial)); (case aR => exact HR6.out); (case aB => exact HB6.out); (case aS => exact HB6.out.size); (case aL => have := HP.out; omega); intro v7 w7 ho hb hg hat; have HO7 := Aside0.mk ho; have HB7 := Aside0.mk hb; have HR7 := Aside0.mk (Kd.C_take HR'.out hn1); have HP7 := Aside0.mk (show ((out ++ List.replicate pad (0 : Int)) ++ seven).length ≤ 6000007 by rw [List.length_append, h7l]; have := HP.out; omega); have hx := (H.out.below hb).cells; have hx0 := hx.1; clear ho hb hg hat hx)
            | ((with_reducible refine gate_builtin (b := .append) (xs := #[.tmp 72, .tmp 75]) rfl ?_); at_builtin; refine Kd.R_append_rows (Kd.int .u8) (w0 := w) w.heap.size rfl (.tmp 72) (.tmp 75) 22 5 (.int .u8 0) 1 rfl Tryd.underlying22 HI.out rfl (by decide) (by omega) v7 ((out ++ List.replicate pad (0 : Int)) ++ seven) (r'.take n) A' n c' (fun _ => True) (fun _ => False) rfl rfl ?aO ?aR (fun _ _ h => h) (fun _ h => h.elim) (fun _ _ => trivial) ?aB ?aS ?aL ?_; (case aO => exact HO7.out); (case aR => have hq := Kd.C_below HR7.out HB7.out; rw [HTL.out] at hq; exact hq); (case aB => exact HB7.out); (case aS => exact HB7.out.size); (case aL => have := HP7.out; omega); intro v8 w8 ho hb hg hat; rw [hL8.out] at ho; obtain ⟨A8, c8, rfl⟩ := Kd.R_slice ho; have HO8 := Aside0.mk ho; have HB8 := Aside0.mk hb; have HW8 := Aside0.mk (H.out.below hb); have hx := (H.out.below hb).cells; have hx0 := hx.1; have hx1 := hx.2.1; have hx2 := hx.2.2; clear ho hb hg hat hx))
          go_ret2
          refine ⟨_, rfl, Kd.R_mono (Kd.R_far (p := ⟨g, 1, none⟩) (Kd.R_types HO8.out HW8.out (by decide)) (fun _ hk => hk.2) _) (fun _ hk => hk.1), ?_, w8, HB8.out, by rw [HSZ.out]⟩
          rw [HSZ.out]
          exact blk_put HW8.out 1 _ rfl
      · have HN3 := Aside0.mk (HNX.out hl_)
        have hmd : ((p : Int) + (pad : Int) + 7 + (n : Int)) % (blk : Int) = ((0 : Nat) : Int) := by rw [show (p : Int) + (pad : Int) + 7 + (n : Int) = ((p + pad + 7 + n : Nat) : Int) by omega, ← Int.natCast_emod, HN3.out.2.2]
        go_wp2_with (first
          | ((with_reducible refine gate_dst (N := 70) rfl ?_); refine Kd.R_lit (Kd.int .u8) (w0 := w) w.heap.size 5 ?hg (N := 70) ?hd (xs := ([sm % 256, sm / 256 % 256, sm / 65536 % 256, sm / 16777216, (n : Int) % 256, (n : Int) / 256, kd] : List Int)) (inner := [.int .u8 (sm % 256), .int .u8 (sm / 256 % 256), .int .u8 (sm / 65536 % 256), .int .u8 (sm / 16777216), .int .u8 ((n : Int) % 256), .int .u8 ((n : Int) / 256), .int .u8 kd]) (ok := fun _ => True) (okp := fun _ => True) ?hr ?hp (fun _ hk => hk) trivial ?hB ?hS (by simp) ?_; (case hd => rfl); (case hg => rfl); (case hr => first | (go_simp; done) | (go_simp; rfl)); (case hp => exact Kd.reps_scalar _); (case hB => exact HB5.out); (case hS => exact HB5.out.size); intro v70 w6 ho hb hg hnew; rw [← H7.out] at ho; obtain ⟨A6, c6, rfl, hc6, hr6⟩ := Kd.R_reads ho; have HO6 := Aside0.mk (Kd.R_grown (Kd.R_tight rfl HO5.out) hg (fun _ _ e_ => by cases e_)); have HR6 := Aside0.mk hr6; have HB6 := Aside0.mk hb; clear ho hb hg hnew hc6 hr6)
          | ((with_reducible refine gate_builtin (b := .append) (xs := #[.tmp 52, .tmp 70]) rfl ?_); at_builtin; refine Kd.R_append_rows (Kd.int .u8) (w0 := w) w.heap.size rfl (.tmp 52) (.tmp 70) 22 5 (.int .u8 0) 1 rfl Tryd.underlying22 HI.out rfl (by decide) (by omega) v3 (out ++ List.replicate pad (0 : Int)) seven _ _ _ (fun _ => True) (fun _ => False) rfl rfl ?aO ?aR (fun _ _ h => h) (fun _ h => h.elim) (fun _ _ => trivial) ?aB ?aS ?aL ?_; (case aO => exact Kd.R_mono HO6.out (fun _ _ => trivial)); (case aR => exact HR6.out); (case aB => exact HB6.out); (case aS => exact HB6.out.size); (case aL => have := HP.out; omega); intro v7 w7 ho hb hg hat; have HO7 := Aside0.mk ho; have HB7 := Aside0.mk hb; have HR7 := Aside0.mk (Kd.C_take HR'.out hn1); have HP7 := Aside0.mk (show ((out ++ List.replicate pad (0 : Int)) ++ seven).length ≤ 6000007 by rw [List.length_append, h7l]; have := HP.out; omega); have hx := (H.out.below hb).cells; have hx0 := hx.1; clear ho hb hg hat hx)
          | ((with_reducible refine gate_builtin (b := .append) (xs := #[.tmp 72, .tmp 75]) rfl ?_); at_builtin; refine Kd.R_append_rows (Kd.int .u8) (w0 := w) w.heap.size rfl (.tmp 72) (.tmp 75) 22 5 (.int .u8 0) 1 rfl Tryd.underlying22 HI.out rfl (by decide) (by omega) v7 ((out ++ List.replicate pad (0 : Int)) ++ seven) (r'.take n) A' n c' (fun _ => True) (fun _ => False) rfl rfl ?aO ?aR (fun _ _ h => h) (fun _ h => h.elim) (fun _ _ => trivial) ?aB ?aS ?aL ?_; (case aO => exact HO7.out); (case aR => have hq := Kd.C_below HR7.out HB7.out; rw [HTL.out] at hq; exact hq); (case aB => exact HB7.out); (case aS => exact HB7.out.size); (case aL => have := HP7.out; omega); intro v8 w8 ho hb hg hat; have HO8 := Aside0.mk ho; have HB8 := Aside0.mk hb; have hx := (H.out.below hb).cells; have hx0 := hx.1; clear ho hb hg hat hx))
        go_roundg k
        case measure => omega
        case rel => exact ⟨r'.drop n, _, A2, c' - n, 0, false, by rw [HDL.out], by rw [hmd], rfl, by omega, by rw [HDL.out]; omega, ⟨by rw [HDL.out]; exact HN3.out.2.1⟩, ⟨by rw [HDL.out]; have := HC'.out; omega⟩, ⟨HBY'.out.drop n⟩, ⟨HN3.out.1⟩, HRD, HO8, HB8⟩

end Go.Proofs.YtmpkigambfghgaaDoor.G

/- Contracts typed by hand: journal: the reading: what stands in a file; a reader's bent by hand -/
namespace Go.Proofs.YtmpkigambfghgaaDoor.G
open Go.RowKit Go.Proofs.YtmpkigambfghgaaDoorW.PrintWords Go.Proofs.YtmpkigambfghgaaDoorW.PrintLast Go.Proofs.YtmpkigambfghgaaDoorW.PrintMore
attribute [local go_sem] max2_int min2_int max_two min_two max_three min_three max_four min_four
set_option linter.unusedVariables false
set_option linter.unusedSimpArgs false

/-! journal: the reading: what stands in a file; a reader's bent by hand -/
def rdn (f : List Int) (i : Nat) : Nat := (f.getD i 0).toNat
def nN (f : List Int) (p : Nat) : Nat := rdn f (p + 4) + 256 * rdn f (p + 5)
def le4N (f : List Int) (p : Nat) : Nat := rdn f p + 256 * rdn f (p + 1) + 65536 * rdn f (p + 2) + 16777216 * rdn f (p + 3)
def dataN (f : List Int) (p : Nat) : List Int := (f.drop (p + 7)).take (nN f p)
/-- a piece that can't come here -/
def bentN (f : List Int) (p : Nat) (d : List Int) (o : Bool) : Bool :=
  ((le4N f p != sumN ((rdn f (p + 6) : Nat) : Int) (dataN f p)) || ((decide (rdn f (p + 6) = 1) || decide (rdn f (p + 6) = 2)) == o)) || decide (d.length + nN f p > 2097152)
/-- how a reading goes on from a place -/
inductive Reads (blk : Nat) (f : List Int) : Nat → List Int → Bool → List (Nat × List Int) → Nat → Prop
  | fin (p : Nat) (d : List Int) (o : Bool) : f.length ≤ p → Reads blk f p d o [] (if o then 1 else 0)
  | pad (p : Nat) (d : List Int) (o : Bool) (l : List (Nat × List Int)) (h : Nat) : p < f.length → blk - p % blk < 7 → (∀ i, p ≤ i → i < min (p + (blk - p % blk)) f.length → rdn f i = 0) → Reads blk f (min (p + (blk - p % blk)) f.length) d o l h → Reads blk f p d o l h
  | padBent (p : Nat) (d : List Int) (o : Bool) (i : Nat) : p < f.length → blk - p % blk < 7 → p ≤ i → i < min (p + (blk - p % blk)) f.length → rdn f i ≠ 0 → (∀ j, p ≤ j → j < i → rdn f j = 0) → Reads blk f p d o [] 2
  | short (p : Nat) (d : List Int) (o : Bool) : p < f.length → 7 ≤ blk - p % blk → f.length < p + 7 → Reads blk f p d o [] 1
  | none (p : Nat) (d : List Int) (o : Bool) : p + 7 ≤ f.length → 7 ≤ blk - p % blk → (rdn f (p + 6) < 1 ∨ 4 < rdn f (p + 6) ∨ blk - p % blk - 7 < nN f p) → Reads blk f p d o [] 2
  | torn (p : Nat) (d : List Int) (o : Bool) : p + 7 ≤ f.length → 7 ≤ blk - p % blk → 1 ≤ rdn f (p + 6) → rdn f (p + 6) ≤ 4 → nN f p ≤ blk - p % blk - 7 → f.length < p + 7 + nN f p → Reads blk f p d o [] 1
  | bent (p : Nat) (d : List Int) (o : Bool) : p + 7 + nN f p ≤ f.length → 7 ≤ blk - p % blk → 1 ≤ rdn f (p + 6) → rdn f (p + 6) ≤ 4 → nN f p ≤ blk - p % blk - 7 → bentN f p d o = true → Reads blk f p d o [] 2
  | more (p : Nat) (d : List Int) (o : Bool) (l : List (Nat × List Int)) (h : Nat) : p + 7 + nN f p ≤ f.length → 7 ≤ blk - p % blk → nN f p ≤ blk - p % blk - 7 → bentN f p d o = false → (rdn f (p + 6) = 2 ∨ rdn f (p + 6) = 3) → Reads blk f (p + 7 + nN f p) (d ++ dataN f p) true l h → Reads blk f p d o l h
  | whole (p : Nat) (d : List Int) (o : Bool) (l : List (Nat × List Int)) (h : Nat) : p + 7 + nN f p ≤ f.length → 7 ≤ blk - p % blk → nN f p ≤ blk - p % blk - 7 → bentN f p d o = false → (rdn f (p + 6) = 1 ∨ rdn f (p + 6) = 4) → Reads blk f (p + 7 + nN f p) [] false l h → Reads blk f p d o ((p + 7 + nN f p, d ++ dataN f p) :: l) h
theorem rdn_int (f : List Int) (i : Nat) (hb : Byt f) : rd f (i : Int) = ((rdn f i : Nat) : Int) ∧ rdn f i < 256 := by
  unfold rd rdn
  rw [Int.toNat_natCast]
  by_cases h : i < f.length
  · rw [List.getD_eq_getElem?_getD, List.getElem?_eq_getElem h]
    have := hb f[i] (List.getElem_mem h)
    simp only [Option.getD_some]
    omega
  · rw [List.getD_eq_getElem?_getD, List.getElem?_eq_none (by omega)]
    simp
/-- a reader's five cells -/
def RdAt (W : World) (R : Nat) (blk : Nat) (A : Option Addr) (n c : Nat) (p : Nat) (v : Value) (o : Bool) : Prop := W.heap[R]? = some (.cells #[.int .i64 (blk : Int), .slice A n c, .int .i64 (p : Int), v, .bool o] 75 (0, 0))
theorem RdAt.c {W : World} {R blk n c p : Nat} {A : Option Addr} {v : Value} {o : Bool} (h : RdAt W R blk A n c p v o) : W.cell? ⟨R, 0, none⟩ = some (.int .i64 (blk : Int)) ∧ W.cell? ⟨R, 1, none⟩ = some (.slice A n c) ∧ W.cell? ⟨R, 2, none⟩ = some (.int .i64 (p : Int)) ∧ W.cell? ⟨R, 3, none⟩ = some v ∧ W.cell? ⟨R, 4, none⟩ = some (.bool o) := ⟨blk_cell h 0, blk_cell h 1, blk_cell h 2, blk_cell h 3, blk_cell h 4⟩
theorem byte_at {W : World} {A : Option Addr} {f : List Int} (h : Kd.C (Kd.int .u8) W A f.length f) (i : Nat) (hi : i < f.length) (hb : Byt f) : ∃ ad, A = some ad ∧ W.cell? (ad.add i) = some (.int .u8 ((rdn f i : Nat) : Int)) := by
  obtain ⟨ad, e, hc⟩ := Kd.at_int h (i : Int) (by omega) (by omega)
  rw [(rdn_int f i hb).1, Int.toNat_natCast] at hc
  exact ⟨ad, e, hc⟩
theorem addr_add2 (ad : Addr) (p j : Nat) : (ad.add p).add j = ad.add (p + j) := by
  rcases p with _ | p <;> rcases j with _ | j <;> simp [Addr.add] <;> omega
theorem le4_bits (x0 x1 x2 x3 : Nat) (h0 : x0 < 256) (h1 : x1 < 256) (h2 : x2 < 256) (h3 : x3 < 256) : bits .or .u32 (bits .or .u32 (bits .or .u32 (x0 : Int) ((x1 : Int) * 256)) ((x2 : Int) * 65536)) ((x3 : Int) * 16777216) = ((x0 + 256 * x1 + 65536 * x2 + 16777216 * x3 : Nat) : Int) := by
  rw [show (x1 : Int) * 256 = ((2 ^ 8 * x1 : Nat) : Int) by omega, join_nat 8 x1 x0 (by omega) (by omega)]
  rw [show (x2 : Int) * 65536 = ((2 ^ 16 * x2 : Nat) : Int) by omega, join_nat 16 x2 (2 ^ 8 * x1 + x0) (by omega) (by omega)]
  rw [show (x3 : Int) * 16777216 = ((2 ^ 24 * x3 : Nat) : Int) by omega, join_nat 24 x3 (2 ^ 16 * x2 + (2 ^ 8 * x1 + x0)) (by omega) (by omega)]
  omega
set_option maxHeartbeats 4000000 in
set_option maxRecDepth 100000 in
theorem bent_calls (R blk : Nat) (A : Option Addr) (c p : Nat) (f d : List Int) (v : Value) (o : Bool) (Ad : Option Addr) (cd : Nat) (W : World) (h : RdAt W R blk A f.length c p v o) (hC : Kd.C (Kd.int .u8) W A f.length f) (hc : f.length ≤ c) (hb : Byt f) (hl : f.length ≤ 1099511627776) (hp : p + 7 + nN f p ≤ f.length)
    (Av : Option Addr) (cv : Nat) (hv : v = .slice Av d.length cv) (hdl : d.length ≤ 1099511627776) (hD : Kd.C (Kd.int .u8) W Ad (nN f p) (dataN f p)) (hcd : nN f p ≤ cd) (hT : TabAt W) :
    Calls Tryd.prog 45 #[.pointer (some ⟨R, 0, none⟩), .int .u8 ((rdn f (p + 6) : Nat) : Int), .slice Ad (nN f p) cd] W fun e w' => e = .returned (.bool (bentN f p d o)) ∧ Below W.heap.size W w' := by
  subst hv
  have hR : R < W.heap.size := blk_lt h
  have hq := h.c
  obtain ⟨q0, q1, q2, q3, q4⟩ := hq
  have hk := (rdn_int f (p + 6) hb).2
  obtain ⟨kd, hkd⟩ : ∃ kd, rdn f (p + 6) = kd := ⟨_, rfl⟩
  have hdn : (dataN f p).length = nN f p := by unfold dataN; rw [List.length_take, List.length_drop]; omega
  have hS := fun W' (hW : Below W.heap.size W W') => journal_sumOf.calls ((dataN f p).length + 2) ((kd : Nat) : Int) Ad cd (dataN f p) _ W' (Kd.C_below (by rw [hdn]; exact hD) hW) (by rw [hdn]; exact hcd) (sumOf_eq _ ((kd : Nat) : Int) (dataN f p) (by omega) (by omega) ((hb.drop _).take _) (by omega) (Nat.le_refl _)) (hT.below hW)
  rw [hdn] at hS
  obtain ⟨ad, e1, r0⟩ := byte_at hC p (by omega) hb
  obtain ⟨ad1, e2, r1⟩ := byte_at hC (p + 1) (by omega) hb
  obtain ⟨ad2, e3, r2⟩ := byte_at hC (p + 2) (by omega) hb
  obtain ⟨ad3, e4, r3⟩ := byte_at hC (p + 3) (by omega) hb
  subst e1
  cases e2; cases e3; cases e4
  have s0 := (rdn_int f p hb).2
  have s1 := (rdn_int f (p + 1) hb).2
  have s2 := (rdn_int f (p + 2) hb).2
  have s3 := (rdn_int f (p + 3) hb).2
  have HLE := Aside0.mk (show le4N f p = rdn f p + 256 * rdn f (p + 1) + 65536 * rdn f (p + 2) + 16777216 * rdn f (p + 3) from rfl)
  obtain ⟨B, hB⟩ : ∃ B, bentN f p d o = B := ⟨_, rfl⟩
  have HBB := Aside0.mk hB
  rw [hB]
  have HS := Aside0.mk hS
  have HKD := Aside0.mk hkd
  generalize hn : nN f p = n at *
  have HN := Aside0.mk hn
  have hinfo : (Tryd.prog.info? 5).map (fun i => (i.zero, i.size, i.bytes)) = some (some (.int .u8 0), 1, 1) := by kernel_rfl
  obtain ⟨i0, hi0, _, hsz0, _⟩ := info_parts hinfo
  have hcut := cut_from (P := Tryd.prog) 22 5 .i64 Tryd.underlying22 hi0 1 hsz0 (some ad) f.length c (p : Int) (by omega) (by omega)
  rw [Int.toNat_natCast, if_neg (by omega)] at hcut
  simp only [Option.map_some, Nat.mul_one] at hcut
  have r1' : W.cell? ((ad.add p).add 1) = some (.int .u8 ((rdn f (p + 1) : Nat) : Int)) := by rw [addr_add2]; exact r1
  have r2' : W.cell? ((ad.add p).add 2) = some (.int .u8 ((rdn f (p + 2) : Nat) : Int)) := by rw [addr_add2]; exact r2
  have r3' : W.cell? ((ad.add p).add 3) = some (.int .u8 ((rdn f (p + 3) : Nat) : Int)) := by rw [addr_add2]; exact r3
  rw [hkd]
  obtain ⟨m, hm⟩ : ∃ m, f.length - p = m := ⟨_, rfl⟩
  obtain ⟨c2, hc2⟩ : ∃ c2, c - p = c2 := ⟨_, rfl⟩
  rw [hm, hc2] at hcut
  have z0 : (0 : Int) < (m : Int) := by omega
  have z1 : (1 : Int) < (m : Int) := by omega
  have z2 : (2 : Int) < (m : Int) := by omega
  have z3 : (3 : Int) < (m : Int) := by omega
  have y0 : 0 < m := by omega
  have y1 : 1 < m := by omega
  have y2 : 2 < m := by omega
  have y3 : 3 < m := by omega
  have r0' : W.cell? ((ad.add p).add 0) = some (.int .u8 ((rdn f p : Nat) : Int)) := r0
  clear hm hc2
  clear h hC hb hT hS hD hinfo hB hkd hn r1 r2 r3 hi0 hsz0 hdn
  obtain ⟨q, hq⟩ : ∃ q, ad.add p = q := ⟨_, rfl⟩
  rw [hq] at hcut r0 r0' r1' r2' r3'
  simp [Addr.add] at r1' r2' r3'
  clear hq r0'
  generalize rdn f p = x0 at *
  generalize rdn f (p + 1) = x1 at *
  generalize rdn f (p + 2) = x2 at *
  generalize rdn f (p + 3) = x3 at *
  have w0 : IntKind.u32.wrap (x0 : Int) = (x0 : Int) := by rw [Go.IntKind.wrap_u32]; omega
  have w1 : IntKind.u32.wrap (x1 : Int) = (x1 : Int) := by rw [Go.IntKind.wrap_u32]; omega
  have w2 : IntKind.u32.wrap (x2 : Int) = (x2 : Int) := by rw [Go.IntKind.wrap_u32]; omega
  have w3 : IntKind.u32.wrap (x3 : Int) = (x3 : Int) := by rw [Go.IntKind.wrap_u32]; omega
  obtain ⟨b1, e1⟩ : ∃ b1, ((kd : Int) == 1) = b1 := ⟨_, rfl⟩
  obtain ⟨b2, e2⟩ : ∃ b2, ((kd : Int) == 2) = b2 := ⟨_, rfl⟩
  obtain ⟨le, hle⟩ : ∃ le, le4N f p = le := ⟨_, rfl⟩
  obtain ⟨sm, hsm⟩ : ∃ sm, sumN ((kd : Nat) : Int) (dataN f p) = sm := ⟨_, rfl⟩
  have hB2 := HBB.out
  unfold bentN at hB2
  rw [HKD.out, HN.out, hle, hsm, show decide (kd = 1) = b1 by rw [← e1, Bool.eq_iff_iff]; simp; omega, show decide (kd = 2) = b2 by rw [← e2, Bool.eq_iff_iff]; simp; omega] at hB2
  obtain ⟨S1, hS1⟩ : ∃ S1, (le != sm) = S1 := ⟨_, rfl⟩
  obtain ⟨S3, hS3⟩ : ∃ S3, decide (d.length + n > 2097152) = S3 := ⟨_, rfl⟩
  rw [hS1, hS3] at hB2
  have f1 : ((le : Int) != (sm : Int)) = S1 := by rw [← hS1, Bool.eq_iff_iff]; simp only [bne_iff_ne, ne_eq, Int.ofNat_inj]
  have f3 : decide ((d.length : Int) + (n : Int) > 2097152) = S3 := by rw [← hS3]; exact decide_eq_decide.2 (by omega)
  have f4 : decide (2097152 < d.length + n) = S3 := hS3
  have HB2 := Aside0.mk hB2
  have HSM := Aside0.mk hsm
  have HLE2 := Aside0.mk hle
  have F1 := Aside0.mk f1
  have F2 := Aside0.mk hS1
  have F3 := Aside0.mk f3
  have F4 := Aside0.mk f4
  clear hB2 hle hsm hS1 hS3 f1 f3 f4
  rw [show B = (((S1 || ((b1 || b2) == o)) || S3)) from HB2.out.symm]
  clear HB2 HBB
  cases b1 <;> cases b2 <;> cases o
  all_goals
    go_enter Tryd.func45, Tryd.ntmps45
    go_wp2
    go_quiet (fail)
    all_goals go_wp2
    go_quiet (fail)
    all_goals go_wp2_with fail
    rw [le4_bits x0 x1 x2 x3 s0 s1 s2 s3, ← HLE.out, HLE2.out]
    (with_reducible refine (HS.out _ (by exact pw_below_drewN (Below.refl _ _) _)).mono ?_)
    rintro e wz ⟨rfl, hb⟩
    rw [HSM.out]
    have HB3 := Aside0.mk (below_step (pw_below_drewN (Below.refl W.heap.size W) _) hb)
    have k3 := (HB3.out.cell (p := ⟨R, 3, none⟩) hR).trans q3
    have k4 := (HB3.out.cell (p := ⟨R, 4, none⟩) hR).trans q4
    have f1 := F1.out
    have f2 := F2.out
    have f3 := F3.out
    have f4 := F4.out
    clear hb q0 q1 q2 q3 q4 r0 r1' r2' r3' hcut w0 w1 w2 w3
    cases S1 <;> cases S3
    all_goals
      go_wp2
      go_ret
      exact ⟨by first | rfl | simp, HB3.out⟩

end Go.Proofs.YtmpkigambfghgaaDoor.G

/- Contracts typed by hand: a range over a function that keeps a state of its own: its cells turn between the rounds -/
namespace Go.Proofs.YtmpkigambfghgaaDoor.G
open Go.RowKit Go.Proofs.YtmpkigambfghgaaDoorW.PrintWords Go.Proofs.YtmpkigambfghgaaDoorW.PrintLast Go.Proofs.YtmpkigambfghgaaDoorW.PrintMore
attribute [local go_sem] max2_int min2_int max_two min_two max_three min_three max_four min_four
set_option linter.unusedVariables false
set_option linter.unusedSimpArgs false

/-! a range over a function that keeps a state of its own: its cells turn between the rounds -/
/-- what may have turned: the blocks of which M holds; others lie as they lay -/
structure Chg (M : Nat → Prop) (W W' : World) : Prop where
  os : W'.os = W.os
  tape : W'.tape = W.tape
  output : W'.output = W.output
  size : W.heap.size ≤ W'.heap.size
  block : ∀ k, k < W.heap.size → ¬ M k → W'.heap[k]? = W.heap[k]?
theorem Chg.refl (M : Nat → Prop) (W : World) : Chg M W W := ⟨rfl, rfl, rfl, Nat.le_refl _, fun _ _ _ => rfl⟩
theorem Chg.trans {M : Nat → Prop} {A B C : World} (h : Chg M A B) (k : Chg M B C) : Chg M A C :=
  ⟨k.os.trans h.os, k.tape.trans h.tape, k.output.trans h.output, Nat.le_trans h.size k.size, fun i hi hm => (k.block i (Nat.lt_of_lt_of_le hi h.size) hm).trans (h.block i hi hm)⟩
theorem Chg.mono {M M' : Nat → Prop} {A B : World} (h : Chg M A B) (hm : ∀ k, k < A.heap.size → M k → M' k) : Chg M' A B := ⟨h.os, h.tape, h.output, h.size, fun k hk hn => h.block k hk (fun h' => hn (hm k hk h'))⟩
theorem Chg.below {M : Nat → Prop} {A B : World} (h : Below A.heap.size A B) : Chg M A B := ⟨h.os, h.tape, h.output, h.size, fun k hk _ => h.block k hk⟩
theorem Chg.putObj (M : Nat → Prop) (W : World) (l : Nat) (o : Obj) (h : M l) : Chg M W (W.putObj l o) :=
  ⟨(grownBy_putObj' W l o).os, (grownBy_putObj' W l o).tape, (grownBy_putObj' W l o).output, (grownBy_putObj' W l o).size, fun k _ hn => World.putObj_heap_other (fun e => hn (e ▸ h))⟩
theorem Chg.set (M : Nat → Prop) (W : World) (b j : Nat) (v : Value) (h : M b) : Chg M W (W.setCell ⟨b, j, none⟩ v) :=
  have g := (Below.refl 0 W).setCell (p := ⟨b, j, none⟩) (Nat.zero_le _) v
  ⟨g.os, g.tape, g.output, g.size, fun k _ hn => Below.heap_setCell W ⟨b, j, none⟩ v k (fun e => hn (e ▸ h))⟩
theorem Chg.grown {M : Nat → Prop} {A B : World} {row : Option Nat} (h : A.grownBy B row) (hm : ∀ k, row = some k → M k) : Chg M A B :=
  ⟨h.os, h.tape, h.output, h.size, fun k hk hn => h.block k hk (fun e => hn (hm k e.symm))⟩
/-- how a round's body may be left -/
def postSt {α : Type} (B : Nat) (C : World → World → Prop) (I : List α → World → Prop) (Ix : Code → List α → World → Prop) (xs : List α) (A : World) : Exit → Act → World → Prop
  | .normal, _, A' => KeepsFrom B A A' ∧ C A A' ∧ I xs A'
  | .ret, _, A' => KeepsFrom B A A' ∧ C A A' ∧ Ix .ret xs A'
  | .exit id, _, A' => KeepsFrom B A A' ∧ C A A' ∧ Ix (.exit id) xs A'
  | .goto t, _, A' => KeepsFrom B A A' ∧ C A A' ∧ Ix (.goto t) xs A'
  | .panic _, _, _ => False
  | .outgrown, _, _ => False
/-- an iterator that keeps a state of its own in the blocks of which M holds -/
def SeqSt {α : Type} (n : Nat) (P : Program) (g : Nat) (lb : Array Value) (encs : α → Array Value) (Ok : α → World → Prop) (Nx : α → Nat) (M V : Nat → Prop) (S : List α → World → Prop) (Sp : List α → Prop) (w : World) : Prop :=
  ∀ (l : Nat) (J Jx : List α → World → Prop) (W : World), Below w.heap.size w W → (∀ s A B, J s A → Chg M A B → J s B) → (∀ s A B, Jx s A → Chg M A B → Jx s B) →
    (∀ pre x A, J pre A → (∃ Y, J pre Y ∧ Y.heap.size ≤ Nx x) → w.heap.size ≤ A.heap.size → Ok x A → Sp (pre ++ [x]) → YieldAt Fence.wide (n - 1) P l (encs x) A fun e B =>
      (e = .returned (.bool true) ∧ J (pre ++ [x]) B ∧ Chg (fun k => V k ∨ w.heap.size ≤ k) A B) ∨ (e = .returned (.bool false) ∧ Jx (pre ++ [x]) B ∧ Chg (fun k => V k ∨ w.heap.size ≤ k) A B)) →
    J [] W →
    CallsIn Fence.wide n P g (#[.func (.yield l) #[] #[]] ++ lb) W fun e B => (∃ v, e = .returned v) ∧ ((∃ xs, S xs B ∧ J xs B) ∨ (∃ pre, Sp pre ∧ Jx pre B))
theorem range_st {α : Type} {n : Nat} {P : Program} {g : Operand} {ps : Array Tmp} {assign body : Code} {Q : Exit → Act → World → Prop} {a : Act} {w : World} (h1 : 1 ≤ n)
    {gf : Nat} {lb : Array Value} (hg : a.eval g = .func (.func gf) #[] lb) (eg : ∀ args w, (callFunc gf args).run P w = .ok (.enter gf args) w)
    {encs : α → Array Value} {Ok : α → World → Prop} {Nx : α → Nat} {M V : Nat → Prop} {S : List α → World → Prop} {Sp : List α → Prop} (hM : ∀ k, M k → k < w.heap.size) (hps : ∀ x, (encs x).size = ps.size) (hseq : SeqSt (n - 1) P gf lb encs Ok Nx M V S Sp w)
    (I : List α → World → Prop) (Ix : Code → List α → World → Prop) (hI : OwnFrom w.heap.size I) (hIx : ∀ c, OwnFrom w.heap.size (Ix c)) (hIM : ∀ s A B, I s A → Chg M A B → I s B) (hIxM : ∀ c s A B, Ix c s A → Chg M A B → Ix c s B)
    (hOk : OwnFrom w.heap.size Ok) (hS : ∀ xs A l o, S xs A → w.heap.size ≤ l → S xs (A.putObj l o)) (h0 : I [] w) (a₁ : α → Act)
    (hassign : ∀ (l : Nat) (x : α) (A : World) (K : Act → World → Prop), K (a₁ x) A → assign.wpIn (Fence.wide.inRound l) (n - 1 - 1) P (Exit.then K (fun _ _ _ => False)) { tmps := (ps.zip (encs x)).foldl (fun t (p, v) => t.setIfInBounds p v) a.tmps, defers := [] } A)
    (hbody : ∀ (l : Nat) (pre : List α) (x : α) (A : World), w.heap.size ≤ l → w.heap.size ≤ A.heap.size → I pre A → (∃ Y, I pre Y ∧ Y.heap.size ≤ Nx x) → Ok x A → Sp (pre ++ [x]) → body.wpIn (Fence.wide.inRound l) (n - 1 - 1) P (postSt w.heap.size (Chg (fun k => V k ∨ w.heap.size ≤ k)) I Ix (pre ++ [x]) A) (a₁ x) A)
    (hdone : ∀ (D : Nat) (xs : List α) (A : World), w.heap.size ≤ D → S xs A → I xs A → A.heap[D]? = some (.deferred (some [])) → Q .normal { a with defers := { target := .collected D, args := #[] } :: a.defers } A)
    (hstop : ∀ (D : Nat) (c : Code) (pre : List α) (A : World), w.heap.size ≤ D → Sp pre → Ix c pre A → A.heap[D]? = some (.deferred (some [])) → c.wpIn Fence.wide n P Q { a with defers := { target := .collected D, args := #[] } :: a.defers } A) :
    (Code.rangeFunc g ps assign body).wpIn Fence.wide n P Q a w := by
  refine wpIn_rangeFunc fun fn hfn => ?_
  obtain ⟨N, hN⟩ : ∃ N, w.heap.size = N := ⟨_, rfl⟩
  obtain ⟨rc, hrc⟩ : ∃ rc : LoopState → Option Code → Loop, rc = fun st pe => { state := st, pending := pe, fn, tmps := a.tmps, params := ps, assign, body, defers := N } := ⟨_, rfl⟩
  obtain ⟨W1, hW1⟩ : ∃ W1, (w.alloc (.deferred (some []))).alloc (.loop (rc .ready none)) = W1 := ⟨_, rfl⟩
  have eL : W1.heap[N + 1]? = some (.loop (rc .ready none)) := by
    have := World.alloc_heap_new (w.alloc (.deferred (some []))) (.loop (rc .ready none))
    rw [World.size_alloc, hN] at this
    rw [← hW1]; exact this
  have eD : W1.heap[N]? = some (.deferred (some [])) := by
    have := World.alloc_heap_new w (.deferred (some []))
    rw [hN] at this
    rw [← hW1]; exact (Below.heap_alloc _ _ _ (by rw [World.size_alloc]; omega)).trans this
  have eI : I [] W1 := by rw [← hW1]; exact hI.alloc _ (hI.alloc _ h0)
  have eB : Below w.heap.size w W1 := by rw [← hW1]; exact below_alloc (below_alloc (Below.refl _ _) _) _
  rw [hN] at hI hIx hOk hS hM hbody hdone hstop
  refine ⟨N + 1, [{ target := .collected N, args := #[] }], W1, { target := .fn (.func gf) lb, args := #[.func (.yield (N + 1)) #[] #[]] }, W1, gf, #[.func (.yield (N + 1)) #[] #[]] ++ lb, W1, ?_, ?_, ?_, ?_, fun _ => h1, ?_⟩
  · rw [← hW1, hrc, ← hN]
    exact run_enterLoop_outer _ _ _ _ _
  · simp only [resolve, hg]
    simp [go_sem]
  · intro f' hf'
    simp [Target.leads] at hf'
    subst hf'
    trivial
  · simp [invoke, go_sem, eg]
  have inM : ∀ k, N ≤ k → ¬ M k := fun k hk hm => by have := hM k hm; omega
  refine (hseq (N + 1) (fun pre A => I pre A ∧ A.heap[N + 1]? = some (.loop (rc .ready none)) ∧ A.heap[N]? = some (.deferred (some [])))
    (fun pre A => ∃ c, Ix c pre A ∧ A.heap[N + 1]? = some (.loop (rc .done (some c))) ∧ A.heap[N]? = some (.deferred (some []))) W1 eB ?_ ?_ ?_ ⟨eI, eL, eD⟩).mono ?_
  · rintro s A B ⟨h, hl, hd⟩ hc
    exact ⟨hIM s A B h hc, (hc.block _ (blk_lt hl) (inM _ (by omega))).trans hl, (hc.block _ (blk_lt hd) (inM _ (Nat.le_refl _))).trans hd⟩
  · rintro s A B ⟨c, h, hl, hd⟩ hc
    exact ⟨c, hIxM c s A B h hc, (hc.block _ (blk_lt hl) (inM _ (by omega))).trans hl, (hc.block _ (blk_lt hd) (inM _ (Nat.le_refl _))).trans hd⟩
  · rintro pre x A ⟨hi, hl, hd⟩ ⟨Y, hY, hYn⟩ hsz hok hsp
    rw [hN] at hsz
    have hy := run_yield (P := P) (args := encs x) hl (by rw [hrc]; exact hps x)
    rw [hrc] at hy
    refine ⟨fn, _, assign, body, hy, roundIn_of_wpIn hfn (hassign _ x A _ ?_)⟩
    clear hy
    refine ⟨_, run_beginRound hl (by rw [hrc]), ?_⟩
    have hl2 : (A.putObj (N + 1) (.loop { rc .ready none with state := .busy })).heap[N + 1]? = some (.loop { rc .ready none with state := .busy }) := World.putObj_heap_same (blk_lt hl)
    have hd2 : (A.putObj (N + 1) (.loop { rc .ready none with state := .busy })).heap[N]? = some (.deferred (some [])) := (World.putObj_heap_other (by omega)).trans hd
    have hc2 : Chg (fun k => V k ∨ N ≤ k) A (A.putObj (N + 1) (.loop { rc .ready none with state := .busy })) := Chg.putObj _ _ _ _ (.inr (by omega))
    have hsz2 : N ≤ (A.putObj (N + 1) (.loop { rc .ready none with state := .busy })).heap.size := Nat.le_trans hsz hc2.size
    have hi2 := hI.putObj (.loop { rc .ready none with state := .busy }) hi (by omega) hl rfl
    have hok2 := hOk.putObj (.loop { rc .ready none with state := .busy }) hok (by omega) hl rfl
    have hb := hbody (N + 1) pre x _ (by omega) hsz2 hi2 ⟨Y, hY.1, hYn⟩ hok2 hsp
    refine wpIn_mono hb ?_
    generalize A.putObj (N + 1) (.loop { rc .ready none with state := .busy }) = A2 at *
    have fin : ∀ (jump : Option Code) (B : World), KeepsFrom N A2 B →
        (Instr.endRound (N + 1) jump).run P B = .ok (.bool jump.isNone) (B.putObj (N + 1) (.loop (rc (if jump.isNone then .ready else .done) jump))) ∧ B.heap[N + 1]? = some (.loop { rc .ready none with state := .busy }) ∧
        (B.putObj (N + 1) (.loop (rc (if jump.isNone then .ready else .done) jump))).heap[N + 1]? = some (.loop (rc (if jump.isNone then .ready else .done) jump)) ∧ (B.putObj (N + 1) (.loop (rc (if jump.isNone then .ready else .done) jump))).heap[N]? = some (.deferred (some [])) := by
      intro jump B hk
      have q1 := hk.same _ _ (by omega) hl2 rfl
      have q2 := hk.same _ _ (Nat.le_refl _) hd2 rfl
      have q3 := run_endRound (P := P) jump q1
      have q4 : B.heap[N + 1]? = some (.loop { rc .ready none with state := .busy }) := q1
      refine ⟨?_, q4, World.putObj_heap_same (blk_lt q1), (World.putObj_heap_other (by omega)).trans q2⟩
      rw [hrc] at q3 ⊢
      exact q3
    rintro e a3 B hp
    cases e with
    | normal =>
      obtain ⟨k1, k2, k3⟩ := hp
      obtain ⟨f1, f2, f3, f4⟩ := fin none B k1
      exact ⟨_, _, f1, .inl ⟨rfl, ⟨hI.putObj _ k3 (by omega) f2 rfl, f3, f4⟩, by rw [hN]; exact (hc2.trans k2).trans (Chg.putObj _ _ _ _ (.inr (by omega)))⟩⟩
    | ret =>
      obtain ⟨k1, k2, k3⟩ := hp
      obtain ⟨f1, f2, f3, f4⟩ := fin (some .ret) B k1
      exact ⟨_, _, f1, .inr ⟨rfl, ⟨.ret, (hIx _).putObj _ k3 (by omega) f2 rfl, f3, f4⟩, by rw [hN]; exact (hc2.trans k2).trans (Chg.putObj _ _ _ _ (.inr (by omega)))⟩⟩
    | exit id =>
      obtain ⟨k1, k2, k3⟩ := hp
      obtain ⟨f1, f2, f3, f4⟩ := fin (some (.exit id)) B k1
      exact ⟨_, _, f1, .inr ⟨rfl, ⟨.exit id, (hIx _).putObj _ k3 (by omega) f2 rfl, f3, f4⟩, by rw [hN]; exact (hc2.trans k2).trans (Chg.putObj _ _ _ _ (.inr (by omega)))⟩⟩
    | goto t =>
      obtain ⟨k1, k2, k3⟩ := hp
      obtain ⟨f1, f2, f3, f4⟩ := fin (some (.goto t)) B k1
      exact ⟨_, _, f1, .inr ⟨rfl, ⟨.goto t, (hIx _).putObj _ k3 (by omega) f2 rfl, f3, f4⟩, by rw [hN]; exact (hc2.trans k2).trans (Chg.putObj _ _ _ _ (.inr (by omega)))⟩⟩
    | panic ch => exact hp.elim
    | outgrown => exact hp.elim
  · rintro e B ⟨⟨v, rfl⟩, (⟨xs, s1, k1, k2, k3⟩ | ⟨pre, s1, c, k1, k2, k3⟩)⟩
    · have q := run_endLoop (P := P) k2 (by rw [hrc]; simp)
      refine ⟨none, _, by rw [hrc] at q; exact q, ?_⟩
      exact hdone _ xs _ (Nat.le_refl _) (hS _ _ _ _ s1 (by omega)) (hI.putObj _ k1 (by omega) k2 rfl) ((World.putObj_heap_other (by omega)).trans k3)
    · have q := run_endLoop (P := P) k2 (by rw [hrc]; simp)
      refine ⟨some c, _, by rw [hrc] at q; exact q, ?_⟩
      exact hstop _ c pre _ (Nat.le_refl _) s1 ((hIx c).putObj _ k1 (by omega) k2 rfl) ((World.putObj_heap_other (by omega)).trans k3)

end Go.Proofs.YtmpkigambfghgaaDoor.G
