/- morainelaw01.CodecSigns answers true for every pair of inputs: for every i64 v and every u64 w the printed functions of the program and of the reference agree. Conditions: the two numbers are of their kinds. -/
import Derived.Test.YtlfikdpcfoflfaaPCodecSignsx1
import Derived.Laws.BitsAllLaws
namespace Go.Proofs.Ytlfikdpcfoflfaa.Pure
open Go.RowKit Go.Proofs.Ytlfikdpcfoflfaa.PCodecSigns Go.Proofs.YtlfikdpcfoflfaaW.PrintWords Go.Proofs.YtlfikdpcfoflfaaW.PrintLast

namespace Signs
theorem xor_u64_zero (a : Int) (h0 : 0 ≤ a) (h1 : a < 18446744073709551616) : bits .xor .u64 a 0 = a := by
  rw [u64_xor a 0 h0 h1 (by omega) (by omega)]
  simp; omega
theorem xor_u64_ones (a : Int) (h0 : 0 ≤ a) (h1 : a < 18446744073709551616) : bits .xor .u64 a 18446744073709551615 = 18446744073709551615 - a := by
  show IntKind.u64.wrap ((BitVec.ofInt 64 a ^^^ BitVec.ofInt 64 18446744073709551615).toNat : Int) = _
  have e : BitVec.ofInt 64 18446744073709551615 = BitVec.allOnes 64 := by decide
  rw [e, BitVec.xor_allOnes, BitVec.toNat_not, BitVec.toNat_ofInt, Go.IntKind.wrap_u64]
  omega
theorem xor_i64_zero (a : Int) (h0 : -9223372036854775808 ≤ a) (h1 : a ≤ 9223372036854775807) : bits .xor .i64 a 0 = a := by
  show IntKind.i64.wrap ((BitVec.ofInt 64 a ^^^ BitVec.ofInt 64 0).toNat : Int) = _
  have e : BitVec.ofInt 64 0 = 0#64 := by decide
  rw [e, BitVec.xor_zero, BitVec.toNat_ofInt]
  simp only [IntKind.wrap, IntKind.bits, IntKind.signed]
  simp
  split <;> omega
theorem xor_i64_ones (a : Int) (h0 : -9223372036854775808 ≤ a) (h1 : a ≤ 9223372036854775807) : bits .xor .i64 a (-1) = -1 - a := by
  show IntKind.i64.wrap ((BitVec.ofInt 64 a ^^^ BitVec.ofInt 64 (-1)).toNat : Int) = _
  have e : BitVec.ofInt 64 (-1) = BitVec.allOnes 64 := by decide
  rw [e, BitVec.xor_allOnes, BitVec.toNat_not, BitVec.toNat_ofInt]
  simp only [IntKind.wrap, IntKind.bits, IntKind.signed]
  simp
  split <;> omega
theorem and1_u64 (a : Int) (h0 : 0 ≤ a) (h1 : a < 18446744073709551616) : bits .and .u64 a 1 = a % 2 := by
  rw [u64_and a 1 h0 h1 (by omega) (by omega)]
  have : (a.toNat &&& (1:Int).toNat) = a.toNat % 2 := by
    show a.toNat &&& 1 = _
    exact Nat.and_one_is_mod _
  rw [this]; omega

theorem zig (v : Int) (h0 : -9223372036854775808 ≤ v) (h1 : v ≤ 9223372036854775807) : codec_Zig.f v = some (if v < 0 then -2 * v - 1 else 2 * v) := by
  unfold codec_Zig.f
  simp only [Go.IntKind.wrap_u64]
  by_cases h : v < 0
  · rw [if_pos h]
    have e : v / 9223372036854775808 % 18446744073709551616 = 18446744073709551615 := by omega
    rw [e, xor_u64_ones _ (by omega) (by omega)]
    congr 1; omega
  · rw [if_neg h]
    have e : v / 9223372036854775808 % 18446744073709551616 = 0 := by omega
    rw [e, xor_u64_zero _ (by omega) (by omega)]
    congr 1; omega

theorem zag (w : Int) (h0 : 0 ≤ w) (h1 : w < 18446744073709551616) : codec_Zag.f w = some (if w % 2 = 1 then -(w / 2) - 1 else w / 2) := by
  unfold codec_Zag.f
  have e1 : wrap64 (w / 2) = w / 2 := by unfold wrap64; omega
  rw [and1_u64 w h0 h1, e1]
  by_cases h : w % 2 = 1
  · rw [if_pos h, h]
    have e : wrap64 (-(wrap64 1)) = -1 := by unfold wrap64; omega
    rw [e, xor_i64_ones _ (by omega) (by omega)]
    congr 1; omega
  · rw [if_neg h, show w % 2 = 0 by omega]
    have e : wrap64 (-(wrap64 0)) = 0 := by unfold wrap64; omega
    rw [e, xor_i64_zero _ (by omega) (by omega)]

theorem refzig (v : Int) (h0 : -9223372036854775808 ≤ v) (h1 : v ≤ 9223372036854775807) : moraineref01_Zig.f v = some (if v < 0 then -2 * v - 1 else 2 * v) := by
  unfold moraineref01_Zig.f
  simp only [Go.IntKind.wrap_u64, wrap64]
  by_cases h : v < 0
  · rw [if_pos h, if_pos h]; congr 1; omega
  · rw [if_neg h, if_neg h]; congr 1; omega

theorem refzag (w : Int) (h0 : 0 ≤ w) (h1 : w < 18446744073709551616) : moraineref01_Zag.f w = some (if w % 2 = 1 then -(w / 2) - 1 else w / 2) := by
  unfold moraineref01_Zag.f
  rw [Int.tmod_eq_emod_of_nonneg h0, Int.tdiv_eq_ediv_of_nonneg h0]
  simp only [Go.IntKind.wrap_u64, wrap64]
  by_cases h : w % 2 = 1
  · rw [if_pos h, if_pos h]; congr 1; omega
  · rw [if_neg h, if_neg h]; congr 1; omega
end Signs

open Signs in
theorem CodecSigns : morainelaw01_CodecSigns.Pure := by
  intro v w hv hw
  have hv' : -9223372036854775808 ≤ v ∧ v ≤ 9223372036854775807 := by simpa [Lit.wf, IntKind.min, IntKind.max, IntKind.signed, IntKind.bits] using hv
  have hw' : 0 ≤ w ∧ w ≤ 18446744073709551615 := by simpa [Lit.wf, IntKind.min, IntKind.max, IntKind.signed, IntKind.bits] using hw
  unfold morainelaw01_CodecSigns.f
  rw [zig v hv'.1 hv'.2, refzig v hv'.1 hv'.2, zag w (by omega) (by omega), refzag w (by omega) (by omega)]
  simp

end Go.Proofs.Ytlfikdpcfoflfaa.Pure
