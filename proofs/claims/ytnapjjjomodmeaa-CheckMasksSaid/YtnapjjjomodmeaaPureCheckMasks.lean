/- morainelaw02.CheckMasks answers true for every u32: Mask and Unmask of the program are the reference's, and each takes the other back. Conditions: the number is a u32. -/
import Derived.Test.YtnapjjjomodmeaaPCheckMasksx1
import Derived.Laws.BitsAllLaws
namespace Go.Proofs.Ytnapjjjomodmeaa.Pure
open Go.RowKit Go.Proofs.Ytnapjjjomodmeaa.PCheckMasks Go.Proofs.YtnapjjjomodmeaaW.PrintWords Go.Proofs.YtnapjjjomodmeaaW.PrintLast

namespace Masks
/-- low bits and high bits: or is the sum -/
theorem join_nat (i h l : Nat) (hl : l < 2 ^ i) (hs : 2 ^ i * h + l < 4294967296) : bits .or .u32 (l : Int) ((2 ^ i * h : Nat) : Int) = ((2 ^ i * h + l : Nat) : Int) := by
  rw [u32_or_nat l (2 ^ i * h) (by omega) (by omega), Nat.or_comm, ← Nat.two_pow_add_eq_or_of_lt hl h]
theorem join17 (hi lo : Int) (h0 : 0 ≤ lo) (h1 : lo < 131072) (h2 : 0 ≤ hi) (h3 : 131072 * hi + lo < 4294967296) : bits .or .u32 lo (131072 * hi) = 131072 * hi + lo := by
  obtain ⟨l, rfl⟩ := Int.eq_ofNat_of_zero_le h0
  obtain ⟨h, rfl⟩ := Int.eq_ofNat_of_zero_le h2
  have := join_nat 17 h l (by omega) (by omega)
  rw [show (131072 * (h : Int)) = ((2 ^ 17 * h : Nat) : Int) by omega, this]
  omega
theorem join15 (hi lo : Int) (h0 : 0 ≤ lo) (h1 : lo < 32768) (h2 : 0 ≤ hi) (h3 : 32768 * hi + lo < 4294967296) : bits .or .u32 lo (32768 * hi) = 32768 * hi + lo := by
  obtain ⟨l, rfl⟩ := Int.eq_ofNat_of_zero_le h0
  obtain ⟨h, rfl⟩ := Int.eq_ofNat_of_zero_le h2
  have := join_nat 15 h l (by omega) (by omega)
  rw [show (32768 * (h : Int)) = ((2 ^ 15 * h : Nat) : Int) by omega, this]
  omega
theorem or_u32_comm (a b : Int) (h1 : 0 ≤ a) (h2 : a < 4294967296) (h3 : 0 ≤ b) (h4 : b < 4294967296) : bits .or .u32 a b = bits .or .u32 b a := by
  rw [u32_or a b h1 h2 h3 h4, u32_or b a h3 h4 h1 h2, Nat.or_comm]
theorem mask (a : Int) (h0 : 0 ≤ a) (h1 : a < 4294967296) : check_Mask.f a = some ((a / 32768 + 131072 * (a % 32768) + 2726488792) % 4294967296) := by
  unfold check_Mask.f
  have e : a * 131072 % 4294967296 = 131072 * (a % 32768) := by omega
  rw [e, join17 (a % 32768) (a / 32768) (by omega) (by omega) (by omega) (by omega)]
  congr 1; omega
theorem unmask (a : Int) : check_Unmask.f a = some (((a - 2726488792) % 4294967296) / 131072 + 32768 * (((a - 2726488792) % 4294967296) % 131072)) := by
  unfold check_Unmask.f
  generalize hr : (a - 2726488792) % 4294967296 = r
  have e : r * 32768 % 4294967296 = 32768 * (r % 131072) := by omega
  rw [e, join15 (r % 131072) (r / 131072) (by omega) (by omega) (by omega) (by omega)]
  congr 1; omega
end Masks

open Masks in
theorem CheckMasks : morainelaw02_CheckMasks.Pure := by
  intro a ha
  have ha' : 0 ≤ a ∧ a ≤ 4294967295 := by simpa [Lit.wf, IntKind.min, IntKind.max, IntKind.signed, IntKind.bits] using ha
  have em : moraineref02_Mask.f a = check_Mask.f a := rfl
  have eu : moraineref02_Unmask.f a = check_Unmask.f a := by
    unfold moraineref02_Unmask.f check_Unmask.f
    rw [or_u32_comm _ _ (by omega) (by omega) (by omega) (by omega)]
  unfold morainelaw02_CheckMasks.f
  rw [em, eu, mask a ha'.1 (by omega), unmask a]
  simp only [Option.bind_some, if_true]
  have h1 : ((a / 32768 + 131072 * (a % 32768) + 2726488792) % 4294967296 - 2726488792) % 4294967296 = a / 32768 + 131072 * (a % 32768) := by omega
  rw [unmask, h1]
  simp only [Option.bind_some]
  rw [if_pos (by omega)]
  generalize hr : (a - 2726488792) % 4294967296 = r
  have h2 : (r + 2726488792) % 4294967296 = a := by omega
  have h3 : (r / 131072 + 32768 * (r % 131072)) / 32768 + 131072 * ((r / 131072 + 32768 * (r % 131072)) % 32768) = r := by omega
  rw [mask _ (by omega) (by omega), h3, h2]
  simp

end Go.Proofs.Ytnapjjjomodmeaa.Pure
