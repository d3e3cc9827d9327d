/- CheckCombines: the program's matrices of registers and the reference's are the same map: noughts. -/
import Derived.Test.YtnapjjjomodmeaaGx14
namespace Go.Proofs.Ytnapjjjomodmeaa.Pure
open Go.RowKit Go.Proofs.Ytnapjjjomodmeaa.G Go.Proofs.YtnapjjjomodmeaaW.PrintWords Go.Proofs.YtnapjjjomodmeaaW.PrintLast
theorem checkcombines_u32 {x : Int} (h : (Lit.int .u32 x).wf = true) : 0 ≤ x ∧ x < 4294967296 := by
  have : 0 ≤ x ∧ x ≤ 4294967295 := by simpa [Lit.wf, IntKind.min, IntKind.max, IntKind.signed, IntKind.bits] using h
  omega
theorem checkcombines_i64 {x : Int} (h : (Lit.int .i64 x).wf = true) : -9223372036854775808 ≤ x ∧ x ≤ 9223372036854775807 := by
  simpa [Lit.wf, IntKind.min, IntKind.max, IntKind.signed, IntKind.bits] using h
theorem checkcombines_same (a b : Int) : check_noughts.f a b = moraineref02_Shift.f a b := rfl
theorem checkcombines_some (a b : Int) (h0 : 0 ≤ a) (h1 : a < 4294967296) (h2 : 0 ≤ b) (h3 : b < 9223372036854775808) : ∃ r, moraineref02_Shift.f a b = some r := by
  unfold moraineref02_Shift.f
  rw [if_pos ⟨h0, h1, h2, h3⟩]
  exact ⟨_, rfl⟩
theorem CheckCombines : morainelaw02_CheckCombines.Pure := by
  intro a0 a1 a2 h0 h1 h2
  have q0 := checkcombines_u32 h0
  have q2 := checkcombines_i64 h2
  unfold morainelaw02_CheckCombines.f check_Combine.f moraineref02_Combine.f
  by_cases hn : a2 < 0
  · rw [if_pos hn, if_pos hn]
    rfl
  · obtain ⟨r, hr⟩ := checkcombines_some a0 a2 q0.1 q0.2 (by omega) (by omega)
    rw [if_neg hn, if_neg hn, checkcombines_same, hr, Option.bind_some, Option.bind_some, Option.bind_some, if_pos rfl, if_pos rfl]
    rfl

end Go.Proofs.Ytnapjjjomodmeaa.Pure
