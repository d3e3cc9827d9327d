/- CheckZeros: the program's matrices of registers and the reference's are the same map: noughts. -/
import Derived.Test.YtnapjjjomodmeaaGx11
namespace Go.Proofs.Ytnapjjjomodmeaa.Pure
open Go.RowKit Go.Proofs.Ytnapjjjomodmeaa.G Go.Proofs.YtnapjjjomodmeaaW.PrintWords Go.Proofs.YtnapjjjomodmeaaW.PrintLast
theorem checkzeros_u32 {x : Int} (h : (Lit.int .u32 x).wf = true) : 0 ≤ x ∧ x < 4294967296 := by
  have : 0 ≤ x ∧ x ≤ 4294967295 := by simpa [Lit.wf, IntKind.min, IntKind.max, IntKind.signed, IntKind.bits] using h
  omega
theorem checkzeros_i64 {x : Int} (h : (Lit.int .i64 x).wf = true) : -9223372036854775808 ≤ x ∧ x ≤ 9223372036854775807 := by
  simpa [Lit.wf, IntKind.min, IntKind.max, IntKind.signed, IntKind.bits] using h
theorem checkzeros_same (a b : Int) : check_noughts.f a b = moraineref02_Shift.f a b := rfl
theorem checkzeros_some (a b : Int) (h0 : 0 ≤ a) (h1 : a < 4294967296) (h2 : 0 ≤ b) (h3 : b < 9223372036854775808) : ∃ r, moraineref02_Shift.f a b = some r := by
  unfold moraineref02_Shift.f
  rw [if_pos ⟨h0, h1, h2, h3⟩]
  exact ⟨_, rfl⟩
theorem CheckZeros : morainelaw02_CheckZeros.Pure := by
  intro a0 a1 h0 h1
  have q0 := checkzeros_u32 h0
  have q1 := checkzeros_i64 h1
  obtain ⟨a, rfl⟩ := Int.eq_ofNat_of_zero_le q0.1
  have ha : a < 4294967296 := by omega
  unfold morainelaw02_CheckZeros.f check_Zeros.f moraineref02_Zeros.f
  by_cases hn : a1 < 0
  · rw [if_pos hn, if_pos hn]
    rfl
  · have hv := inv_int a ha
    obtain ⟨r, hr⟩ := checkzeros_some ((inv a : Nat) : Int) a1 (Int.natCast_nonneg _) (Int.ofNat_lt.2 (inv_lt ha)) (by omega) (by omega)
    rw [if_neg hn, if_neg hn, hv, checkzeros_same, hr, Option.bind_some, Option.bind_some, Option.bind_some, if_pos rfl, if_pos rfl]
    rfl

end Go.Proofs.Ytnapjjjomodmeaa.Pure
