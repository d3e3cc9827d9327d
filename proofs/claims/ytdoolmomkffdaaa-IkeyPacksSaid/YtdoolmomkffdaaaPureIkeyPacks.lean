/- morainelaw03.IkeyPacks answers true for every number, kind and packed number: Pack and Unpack of the program are the reference's. Conditions: the three numbers are of their kinds. -/
import Derived.Test.YtdoolmomkffdaaaPIkeyPacksx1
import Derived.Laws.BitsAllLaws
namespace Go.Proofs.Ytdoolmomkffdaaa.Pure
open Go.RowKit Go.Proofs.Ytdoolmomkffdaaa.PIkeyPacks Go.Proofs.YtdoolmomkffdaaaW.PrintWords Go.Proofs.YtdoolmomkffdaaaW.PrintLast

namespace Packs
theorem kind_eq (a : Int) : moraineref03_kind.f a = ikey_isKind.f a := by
  unfold moraineref03_kind.f ikey_isKind.f
  by_cases h0 : a = 0
  · rw [if_pos h0, if_pos h0]
  · by_cases h1 : a = 1
    · rw [if_neg h0, if_neg h0, if_pos h1, if_pos h1]
    · by_cases h2 : a = 2
      · rw [if_neg h0, if_neg h0, if_neg h1, if_neg h1, if_pos h2, if_pos h2]
      · by_cases h3 : a = 255
        · rw [if_neg h0, if_neg h0, if_neg h1, if_neg h1, if_neg h2, if_neg h2, if_pos h3, h3]; rfl
        · rw [if_neg h0, if_neg h0, if_neg h1, if_neg h1, if_neg h2, if_neg h2, if_neg h3]; simp [h3]
theorem kind_some (a : Int) : ikey_isKind.f a = some (decide (a = 0 ∨ a = 1 ∨ a = 2 ∨ a = 255)) := by
  unfold ikey_isKind.f
  by_cases h0 : a = 0
  · simp [h0]
  · by_cases h1 : a = 1
    · simp [h1]
    · by_cases h2 : a = 2
      · simp [h2]
      · by_cases h3 : a = 255
        · simp [h3]
        · simp [h0, h1, h2, h3]
theorem join8 (h l : Int) (l0 : 0 ≤ l) (l1 : l < 256) (h0 : 0 ≤ h) (h1 : h ≤ 72057594037927935) : bits .or .u64 (h * 256) l = h * 256 + l := by
  obtain ⟨a, rfl⟩ := Int.eq_ofNat_of_zero_le l0
  obtain ⟨b, rfl⟩ := Int.eq_ofNat_of_zero_le h0
  have e : ((b : Int) * 256) = ((2 ^ 8 * b : Nat) : Int) := by omega
  rw [e, u64_or_nat (2 ^ 8 * b) a (by omega) (by omega), ← Nat.two_pow_add_eq_or_of_lt (show a < 2 ^ 8 by omega) b]
  omega
theorem and255 (a : Int) (h0 : 0 ≤ a) (h1 : a < 18446744073709551616) : bits .and .u64 a 255 = a % 256 := by
  rw [u64_and a 255 h0 h1 (by omega) (by omega)]
  have : a.toNat &&& (255 : Int).toNat = a.toNat % 2 ^ 8 := Nat.and_two_pow_sub_one_eq_mod a.toNat 8
  rw [this]; omega
theorem pack_eq (a b : Int) (h0 : 0 ≤ a) : moraineref03_Pack.f a b = ikey_Pack.f a b := by
  unfold moraineref03_Pack.f ikey_Pack.f
  by_cases h : a > 72057594037927935
  · rw [if_pos h, if_pos h]
  · rw [if_neg h, if_neg h, kind_eq, kind_some]
    simp only [Option.bind_some]
    by_cases hb : b = 0 ∨ b = 1 ∨ b = 2 ∨ b = 255
    · simp only [decide_eq_true hb, if_true, Go.IntKind.wrap_u64]
      have e1 : a * 256 % 18446744073709551616 = a * 256 := by omega
      have e2 : b % 18446744073709551616 = b := by omega
      rw [e1, e2, join8 a b (by omega) (by omega) h0 (by omega)]
      have e3 : (a * 256 + b) % 18446744073709551616 = a * 256 + b := by omega
      rw [e3]
    · simp only [decide_eq_false hb, Bool.false_eq_true, if_false]
theorem unpack_eq (a : Int) (h0 : 0 ≤ a) (h1 : a < 18446744073709551616) : moraineref03_Unpack.f a = ikey_Unpack.f a := by
  unfold moraineref03_Unpack.f ikey_Unpack.f
  rw [kind_eq, and255 a h0 h1, Int.tmod_eq_emod_of_nonneg h0, Int.tdiv_eq_ediv_of_nonneg h0, Go.IntKind.wrap_u64]
  have e : a / 256 % 18446744073709551616 = a / 256 := by omega
  rw [e]
theorem pack_some (a b : Int) : ∃ x y, ikey_Pack.f a b = some (x, y) := by
  unfold ikey_Pack.f
  by_cases h : a > 72057594037927935
  · rw [if_pos h]; exact ⟨_, _, rfl⟩
  · rw [if_neg h, kind_some]
    simp only [Option.bind_some]
    split
    · exact ⟨_, _, rfl⟩
    · exact ⟨_, _, rfl⟩
theorem unpack_val (a : Int) (h0 : 0 ≤ a) (h1 : a < 18446744073709551616) : ikey_Unpack.f a = (some (decide (a % 256 = 0 ∨ a % 256 = 1 ∨ a % 256 = 2 ∨ a % 256 = 255))).bind fun t => if t = true then some (a / 256, a % 256, 0) else some (0, 0, 30) := by
  have e : wrap64 (a % 256) = a % 256 := by unfold wrap64; omega
  unfold ikey_Unpack.f
  rw [and255 a h0 h1, e, kind_some]
theorem unpack_some (a : Int) (h0 : 0 ≤ a) (h1 : a < 18446744073709551616) : ∃ x y z, ikey_Unpack.f a = some (x, y, z) := by
  rw [unpack_val a h0 h1]
  simp only [Option.bind_some]
  by_cases hq : a % 256 = 0 ∨ a % 256 = 1 ∨ a % 256 = 2 ∨ a % 256 = 255
  · simp only [decide_eq_true hq, if_true]; exact ⟨_, _, _, rfl⟩
  · simp only [decide_eq_false hq, Bool.false_eq_true, if_false]; exact ⟨_, _, _, rfl⟩
end Packs

open Packs in
theorem IkeyPacks : morainelaw03_IkeyPacks.Pure := by
  intro a b c ha _ hc
  have ha' : 0 ≤ a ∧ a ≤ 18446744073709551615 := by simpa [Lit.wf, IntKind.min, IntKind.max, IntKind.signed, IntKind.bits] using ha
  have hc' : 0 ≤ c ∧ c ≤ 18446744073709551615 := by simpa [Lit.wf, IntKind.min, IntKind.max, IntKind.signed, IntKind.bits] using hc
  refine ⟨1, ?_⟩
  unfold morainelaw03_IkeyPacks.f
  obtain ⟨x, y, e⟩ := pack_some a b
  obtain ⟨u, v, w, e2⟩ := unpack_some c hc'.1 (by omega)
  rw [pack_eq a b ha'.1, e]
  simp only [Option.bind_some, if_true, bne_self_eq_false, morainelaw03_IkeyPacks.j0]
  rw [unpack_eq c hc'.1 (by omega), e2]
  simp [morainelaw03_names.f]

end Go.Proofs.Ytdoolmomkffdaaa.Pure
