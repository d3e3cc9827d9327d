/- The law IkeyOrder answers true for every input whose values and letters are together at most 1048576 (the second form of its statement); each argument reads afterwards as before. -/
import Derived.Test.YtdoolmomkffdaaaRows
import Derived.Test.YtdoolmomkffdaaaLawIkeyCompares
import Derived.Test.YtdoolmomkffdaaaOpens
import Derived.WalkKit
import Derived.ProofKit
import Derived.OpenShut
import Derived.ShutString
import Derived.ChangeOld
import Derived.Below
import Derived.SizedLaws
import Derived.JoinedCond
namespace Go.Proofs.Ytdoolmomkffdaaa.ikeyOrderUp
open Go.ChangeShapes Go.WideShapes Go.ChangeAt Go.RowKit Go.Proofs.Ytdoolmomkffdaaa.G Go.Proofs.YtdoolmomkffdaaaW.PrintWords
open Go.ChangeMaps (open_string shut_string)
set_option linter.unusedVariables false
theorem own : ownKnob Try.prog.godebug = none := by kernel_rfl
theorem laidOut : laidOutB Try.prog = true := by kernel_rfl
set_option maxRecDepth 100000 in
theorem lifted (os : Os) (started : os.Started) (H : Type) (enc : TypeId × Value → H) (F : Stop.Interp) :
    ReturnsInHanded {} Try.checked os 4 .any ((Rows.OpenSpec.upto Rows.ikeyOrderSpec).pre6 enc Try.prog Try.f4 Rows.ikeyOrderUptoRow.domain false) (((Rows.OpenSpec.upto Rows.ikeyOrderSpec).at F).post enc Try.prog Try.f4 false true false false) := by
  refine returnsInHanded_of_cond (C := Try.checked) (s := (Rows.OpenSpec.upto Rows.ikeyOrderSpec)) (k := Rows.uptoSmall) rfl own started (by kernel_rfl) Try.func4
    (OpenSpec.witness (enc := enc) (C := Try.checked) (s := (Rows.OpenSpec.upto Rows.ikeyOrderSpec)) (k := Rows.uptoSmall) rfl false ⟨#[], #[.agg #[.string ByteArray.empty, .int .u64 0, .int .i64 0], .agg #[.string ByteArray.empty, .int .u64 0, .int .i64 0], .agg #[.string ByteArray.empty, .int .u64 0, .int .i64 0]], []⟩ 8 (by kernel_rfl) (by kernel_rfl) (by kernel_rfl)
      (x := ([.agg [.lit (.string []), .lit (.int .u64 0), .lit (.int .i64 0)], .agg [.lit (.string []), .lit (.int .u64 0), .lit (.int .i64 0)], .agg [.lit (.string []), .lit (.int .u64 0), .lit (.int .i64 0)]], [], [])) (by kernel_rfl) rfl (by kernel_rfl)) ?_
  intro W base args ds gs before hval0 hW _ hk _
  have hval : ∀ (j : Nat) t v, Try.f4.params[j]? = some t → args[j]? = some v → Value.okWide Try.prog W .any base t v := hval0
  have hW' := hW
  obtain ⟨p, q, hA0, hV, rfl, hfz, hnd⟩ := hW
  have hA : DataW.TrodAll enc Try.prog W 0 (fun _ => true) true Try.f4.params.toList args.toList ds p := hA0
  rw [Try.params4] at hA hval
  obtain ⟨v0, vs0, d0, ds0, p0, q0, hargs, rfl, rfl, h0, r0⟩ := trodAll_cons hA
  obtain ⟨v1, vs1, d1, ds1, p1, q1, rfl, rfl, rfl, h1, r1⟩ := trodAll_cons r0
  obtain ⟨v2, vs2, d2, ds2, p2, q2, rfl, rfl, rfl, h2, r2⟩ := trodAll_cons r1
  obtain ⟨rfl, rfl, rfl⟩ := trodAll_nil r2
  obtain rfl : args = #[v0, v1, v2] := by cases args; simp_all
  obtain ⟨rfl, rfl⟩ := trodVars_none hV
  have hbk := bulk_bound hk
  simp only [List.append_nil, Rows.uptoBulkAll] at hbk
  have lt0 : ∀ x ∈ p0, x.block < W.heap.size := by obtain ⟨m, hm⟩ := h0; exact DataW.trod_lt m _ _ _ hm
  have k0 := h0
  obtain ⟨fuel0, hf0⟩ := h0
  obtain ⟨x0, hK0, hg0, hb0⟩ := (opens_struct3 Try.underlying35 (by kernel_rfl) rfl rfl rfl (opens_string Try.underlying9 (by kernel_rfl)) (opens_int Try.underlying22 (by kernel_rfl)) (opens_int Try.underlying3 (by kernel_rfl))).go hf0
  obtain ⟨cs0, rfl, hsz0⟩ := okWide_struct Try.underlying35 (hval 0 35 v0 rfl rfl)
  have lt1 : ∀ x ∈ p1, x.block < W.heap.size := by obtain ⟨m, hm⟩ := h1; exact DataW.trod_lt m _ _ _ hm
  have k1 := h1
  obtain ⟨fuel1, hf1⟩ := h1
  obtain ⟨x1, hK1, hg1, hb1⟩ := (opens_struct3 Try.underlying35 (by kernel_rfl) rfl rfl rfl (opens_string Try.underlying9 (by kernel_rfl)) (opens_int Try.underlying22 (by kernel_rfl)) (opens_int Try.underlying3 (by kernel_rfl))).go hf1
  obtain ⟨cs1, rfl, hsz1⟩ := okWide_struct Try.underlying35 (hval 1 35 v1 rfl rfl)
  have lt2 : ∀ x ∈ p2, x.block < W.heap.size := by obtain ⟨m, hm⟩ := h2; exact DataW.trod_lt m _ _ _ hm
  have k2 := h2
  obtain ⟨fuel2, hf2⟩ := h2
  obtain ⟨x2, hK2, hg2, hb2⟩ := (opens_struct3 Try.underlying35 (by kernel_rfl) rfl rfl rfl (opens_string Try.underlying9 (by kernel_rfl)) (opens_int Try.underlying22 (by kernel_rfl)) (opens_int Try.underlying3 (by kernel_rfl))).go hf2
  obtain ⟨cs2, rfl, hsz2⟩ := okWide_struct Try.underlying35 (hval 2 35 v2 rfl rfl)
  (try dsimp only at hb0)
  (try dsimp only at hb1)
  (try dsimp only at hb2)
  refine (IkeyOrder_upto W cs0 x0 hK0 hg0 cs1 x1 hK1 hg1 cs2 x2 hK2 hg2 (by first | omega | (dsimp only at *; omega))).mono fun e W' ⟨he, bel⟩ => ?_
  subst he
  exact ⟨_, rfl, _, _, _, [], _, [], hW', trodAll_mk1 (shut_bool Try.underlying4 _), (trodAll_cons_mk (Below.trod laidOut (by kernel_rfl) (of_decide_eq_true (by kernel_rfl)) k0 bel lt0) (trodAll_cons_mk (Below.trod laidOut (by kernel_rfl) (of_decide_eq_true (by kernel_rfl)) k1 bel lt1) (trodAll_cons_mk (Below.trod laidOut (by kernel_rfl) (of_decide_eq_true (by kernel_rfl)) k2 bel lt2) trodAll_mk0))), rfl, bel.frame _, fun h => by cases h⟩
theorem over : Rows.ikeyOrderUptoRow.holds Try.pinned (Rows.OpenSpec.upto Rows.ikeyOrderSpec) :=
  OpenClaim.holds_of_cond 4 Try.f4 rfl rfl rfl rfl rfl rfl rfl ⟨rfl, rfl, rfl, rfl, rfl⟩ rfl rfl rfl rfl rfl (by kernel_rfl) Try.func4 (by kernel_rfl)
    (of_decide_eq_true (by kernel_rfl)) (by unfold Func.isWrapper; first | (rw [if_pos (by decide +kernel)]; kernel_rfl) | (rw [if_neg (by decide +kernel)]; exact ⟨rfl, rfl⟩))
    (fun os started H enc _ F => lifted os started H enc F)
theorem proved : Rows.IkeyOrderUptoSaid := over
end Go.Proofs.Ytdoolmomkffdaaa.ikeyOrderUp
namespace Go.Proofs.Ytdoolmomkffdaaa
/-- The row, under a short name, for the claim. -/
theorem ikeyOrderUpto_holds : Rows.IkeyOrderUptoSaid := ikeyOrderUp.proved
end Go.Proofs.Ytdoolmomkffdaaa
