/- morainelaw12.BloomProbes answers true for every number of bits: the program's Probes is the reference's. Conditions: the number is an int. -/
import Derived.Test.YticbfcfpchongaaPBloomProbesx1
namespace Go.Proofs.Yticbfcfpchongaa.Pure
open Go.RowKit Go.Proofs.Yticbfcfpchongaa.PBloomProbes Go.Proofs.YticbfcfpchongaaW.PrintWords Go.Proofs.YticbfcfpchongaaW.PrintLast

theorem BloomProbes : morainelaw12_BloomProbes.Pure := by
  intro a _
  have e : moraineref12_Probes.f a = bloom_Probes.f a := rfl
  have hs : ∃ x y, bloom_Probes.f a = some (x, y) := by
    unfold bloom_Probes.f
    split
    · exact ⟨_, _, rfl⟩
    · split <;> exact ⟨_, _, rfl⟩
  obtain ⟨x, y, h⟩ := hs
  have t : bloom_Probes.f 10 = some (6, 0) := by decide +kernel
  unfold morainelaw12_BloomProbes.f
  rw [e, h, t]
  simp [morainelaw12_names.f]

end Go.Proofs.Yticbfcfpchongaa.Pure
