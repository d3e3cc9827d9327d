/- Contracts typed by hand: Filters in plain Lean: which bits a filter of keys has -/
import Derived.Test.YticbfcfpchongaaProg
import Derived.Below
import Derived.Deep.Draws
import Derived.Deep.AppendLies
import Derived.Maps.AppendAt
import Derived.OwnWalk
import Derived.Laws.BytesArg
import Derived.Laws.MakeOwn
import Derived.Laws.OwnMore
import Derived.Deep.OwnRows
import Derived.Tactics
import Derived.Lib.ConvBytes
import Derived.Laws.Slices
import Derived.WalkKit
import Derived.KernelRfl
import Derived.RowKit3
import Derived.Deep.LoopGhost
import Derived.Deep.QuietTactic
import Derived.BigQuiet
import Derived.WideLaws
import Derived.Deep.DeepCutAuto
import Derived.Deep.CutBlock
import Derived.Deep.RegionHeld3
import Derived.Laws.Rows
import Derived.Lib.AppendStr
import Derived.ArgAppend
import Derived.Laws.IdiomCopy
import Derived.OrdersHeld
import Derived.Laws.BitsLemmas
import Derived.RowKit
import Derived.Test.YticbfcfpchongaaWWords
import Derived.Test.YticbfcfpchongaaWLast
import Derived.Test.YticbfcfpchongaaWTab
import Derived.Test.YticbfcfpchongaaWFour
import Derived.Test.YticbfcfpchongaaWQPut
import Derived.Test.YticbfcfpchongaaWApart
import Derived.Test.YticbfcfpchongaaWArr
import Derived.Test.YticbfcfpchongaaWZeros
import Derived.Test.YticbfcfpchongaaWFoot
import Derived.Test.YticbfcfpchongaaWKept
import Derived.Test.YticbfcfpchongaaWShare
import Derived.Test.YticbfcfpchongaaWN
import Derived.Test.YticbfcfpchongaaWFootNe
import Derived.Test.YticbfcfpchongaaWAt
import Derived.Test.YticbfcfpchongaaWEqStruct
import Derived.Test.YticbfcfpchongaaWRepsOne
import Derived.Test.YticbfcfpchongaaWInv
import Derived.Test.YticbfcfpchongaaWInvWords
import Derived.Test.YticbfcfpchongaaWGuard
import Derived.Test.YticbfcfpchongaaWNEv
import Derived.Test.YticbfcfpchongaaWMore
import Derived.Test.YticbfcfpchongaaManBloom
import Derived.Test.YticbfcfpchongaaPureHash
import Derived.Laws.BitsAllLaws
namespace Go.Proofs.Yticbfcfpchongaa.G
open Go.RowKit Go.Proofs.YticbfcfpchongaaW.PrintWords Go.Proofs.YticbfcfpchongaaW.PrintLast Go.Proofs.YticbfcfpchongaaW.PrintMore
attribute [local go_sem] max2_int min2_int max_two min_two max_three min_three max_four min_four
set_option linter.unusedVariables false
set_option linter.unusedSimpArgs false

/-! Filters in plain Lean: which bits a filter of keys has -/
theorem getv_test (x b : Int) (h0 : 0 ≤ x) (h1 : x < 256) : getv x b = x.toNat.testBit (b % 8).toNat := by
  obtain ⟨x, rfl⟩ := Int.eq_ofNat_of_zero_le h0
  unfold getv
  generalize (b % 8).toNat = j
  have e : (x : Int) / 2 ^ j = ((x / 2 ^ j : Nat) : Int) := by push_cast; rfl
  have hle : x / 2 ^ j ≤ x := Nat.div_le_self _ _
  rw [e, show (1 : Int) = ((1 : Nat) : Int) by rfl, u8_and_nat _ _ (by omega) (by omega), nat_mask1, Int.toNat_natCast, Nat.testBit_eq_decide_div_mod_eq]
  rw [Bool.eq_iff_iff]
  simp only [beq_iff_eq, decide_eq_true_eq]
  omega
theorem setv_nat (x b : Int) (h0 : 0 ≤ x) (h1 : x < 256) : setv x b = ((x.toNat ||| 2 ^ (b % 8).toNat : Nat) : Int) := by
  obtain ⟨x, rfl⟩ := Int.eq_ofNat_of_zero_le h0
  unfold setv
  have hj : (b % 8).toNat < 8 := by omega
  generalize (b % 8).toNat = j at *
  have h2 : 2 ^ j < 256 := by
    have : 2 ^ j < 2 ^ 8 := Nat.pow_lt_pow_right (by omega) hj
    omega
  have e : (2 : Int) ^ j % 256 = ((2 ^ j : Nat) : Int) := by
    have : (2 : Int) ^ j = ((2 ^ j : Nat) : Int) := by push_cast; rfl
    rw [this]
    generalize 2 ^ j = z at *
    omega
  rw [e, u8_or_nat _ _ (by omega) h2, Int.toNat_natCast]
theorem setv_rng (x b : Int) (h0 : 0 ≤ x) (h1 : x < 256) : 0 ≤ setv x b ∧ setv x b < 256 := by
  rw [setv_nat x b h0 h1]
  have hj : (b % 8).toNat < 8 := by omega
  have h2 : 2 ^ (b % 8).toNat < 2 ^ 8 := Nat.pow_lt_pow_right (by omega) hj
  have := Nat.or_lt_two_pow (n := 8) (show x.toNat < 2 ^ 8 by omega) h2
  omega
theorem getv_setv (x b c : Int) (h0 : 0 ≤ x) (h1 : x < 256) : getv (setv x b) c = (getv x c || decide (b % 8 = c % 8)) := by
  have hr := setv_rng x b h0 h1
  rw [getv_test _ _ hr.1 hr.2, getv_test _ _ h0 h1, setv_nat x b h0 h1, Int.toNat_natCast, Nat.testBit_or, Nat.testBit_two_pow]
  congr 1
  rw [Bool.eq_iff_iff]
  simp only [decide_eq_true_eq]
  omega
theorem getv_ext (x y : Int) (h0 : 0 ≤ x) (h1 : x < 256) (g0 : 0 ≤ y) (g1 : y < 256) (h : ∀ j : Nat, j < 8 → getv x (j : Int) = getv y (j : Int)) : x = y := by
  have e : x.toNat = y.toNat := by
    apply Nat.eq_of_testBit_eq
    intro i
    by_cases hi : i < 8
    · have := h i hi
      rw [getv_test _ _ h0 h1, getv_test _ _ g0 g1, show ((i : Int) % 8).toNat = i by omega] at this
      exact this
    · have hp : 2 ^ 8 ≤ 2 ^ i := Nat.pow_le_pow_right (by omega) (by omega)
      rw [Nat.testBit_lt_two_pow (by omega), Nat.testBit_lt_two_pow (by omega)]
  omega
theorem getv_zero (c : Int) : getv 0 c = false := by
  rw [getv_test 0 c (by omega) (by omega)]
  simp
def bitAt (f : List Int) (c : Int) : Bool := getv (rd f (c / 8)) c
def Byt (f : List Int) : Prop := ∀ x ∈ f, 0 ≤ x ∧ x < 256
theorem rd_rng {f : List Int} (h : Byt f) (i : Int) : 0 ≤ rd f i ∧ rd f i < 256 := by
  unfold rd
  by_cases hi : i.toNat < f.length
  · rw [List.getD_eq_getElem?_getD, List.getElem?_eq_getElem hi]
    exact h _ (List.getElem_mem hi)
  · rw [List.getD_eq_getElem?_getD, List.getElem?_eq_none (by omega)]
    simp
theorem rd_set (f : List Int) (i j : Int) (v : Int) (hi : 0 ≤ i) (hl : i < f.length) (hj : 0 ≤ j) : rd (f.set i.toNat v) j = if i = j then v else rd f j := by
  unfold rd
  rw [List.getD_eq_getElem?_getD, List.getD_eq_getElem?_getD, List.getElem?_set]
  by_cases h : i = j
  · subst h
    rw [if_pos rfl, if_pos rfl, if_pos (by omega)]
    rfl
  · rw [if_neg h, if_neg (by omega)]
theorem byt_set {f : List Int} (h : Byt f) (i : Nat) {v : Int} (h0 : 0 ≤ v) (h1 : v < 256) : Byt (f.set i v) := by
  intro x hx
  rcases List.mem_or_eq_of_mem_set hx with hx | rfl
  · exact h x hx
  · exact ⟨h0, h1⟩
theorem bit_set {f : List Int} (h : Byt f) (b c : Int) (hb : 0 ≤ b) (hl : b / 8 < f.length) (hc : 0 ≤ c) : bitAt (f.set (b / 8).toNat (setv (rd f (b / 8)) b)) c = (bitAt f c || decide (b = c)) := by
  have hr := rd_rng h (b / 8)
  unfold bitAt
  rw [rd_set f _ _ _ (by omega) hl (by omega)]
  by_cases e : b / 8 = c / 8
  · rw [if_pos e, getv_setv _ _ _ hr.1 hr.2, ← e]
    congr 1
    rw [Bool.eq_iff_iff]
    simp only [decide_eq_true_eq]
    omega
  · rw [if_neg e, show decide (b = c) = false from decide_eq_false (by omega), Bool.or_false]
def kb (n d : Int) : Nat → Int → List Int
  | 0, _ => []
  | p + 1, h => (h % n) :: kb n d p ((h + d) % 4294967296)
theorem kb_rng (n d : Int) (hn : 0 < n) : ∀ p h c, c ∈ kb n d p h → 0 ≤ c ∧ c < n
  | 0, _, _, hc => by simp [kb] at hc
  | p + 1, h, c, hc => by
    simp only [kb, List.mem_cons] at hc
    rcases hc with rfl | hc
    · exact ⟨Int.emod_nonneg _ (by omega), Int.emod_lt_of_pos _ hn⟩
    · exact kb_rng n d hn p _ c hc
theorem allbits_kb (n d : Int) (f : List Int) : ∀ p h, allbits n d f p h = (kb n d p h).all (bitAt f)
  | 0, _ => rfl
  | p + 1, h => by
    simp only [allbits, kb, List.all_cons, allbits_kb n d f p, bitAt]
    cases getv (rd f (h % n / 8)) (h % n) <;> rfl
theorem putbits_all (n d : Int) (hn : 0 < n) : ∀ p h f, Byt f → n ≤ 8 * (f.length : Int) →
    (putbits n d p h f).length = f.length ∧ Byt (putbits n d p h f) ∧ (∀ c, 0 ≤ c → bitAt (putbits n d p h f) c = (bitAt f c || decide (c ∈ kb n d p h))) ∧ (∀ j, 0 ≤ j → n ≤ 8 * j → rd (putbits n d p h f) j = rd f j)
  | 0, h, f, hf, hl => by simp [putbits, kb, hf]
  | p + 1, h, f, hf, hl => by
    have m0 : 0 ≤ h % n := Int.emod_nonneg _ (by omega)
    have m1 : h % n < n := Int.emod_lt_of_pos _ hn
    have hr := rd_rng hf (h % n / 8)
    have hs := setv_rng _ (h % n) hr.1 hr.2
    obtain ⟨i1, i2, i3, i4⟩ := putbits_all n d hn p ((h + d) % 4294967296) (f.set (h % n / 8).toNat (setv (rd f (h % n / 8)) (h % n))) (byt_set hf _ hs.1 hs.2) (by rw [List.length_set]; exact hl)
    simp only [putbits, kb]
    refine ⟨by rw [i1, List.length_set], i2, fun c hc => ?_, fun j hj hj2 => ?_⟩
    · rw [i3 c hc, bit_set hf _ c m0 (by omega) hc, Bool.or_assoc]
      congr 1
      rw [Bool.eq_iff_iff]
      simp only [Bool.or_eq_true, decide_eq_true_eq, List.mem_cons]
      constructor
      · rintro (e | e)
        · exact Or.inl e.symm
        · exact Or.inr e
      · rintro (e | e)
        · exact Or.inl e.symm
        · exact Or.inr e
    · rw [i4 j hj hj2, rd_set _ _ _ _ (by omega) (by omega) hj, if_neg (by omega)]

end Go.Proofs.Yticbfcfpchongaa.G
