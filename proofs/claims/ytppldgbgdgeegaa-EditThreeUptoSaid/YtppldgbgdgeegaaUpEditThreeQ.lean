/- The law EditThree answers true for every input whose values and letters are together at most 1048576 (the second form of its statement); each argument reads afterwards as before. -/
import Derived.Test.YtppldgbgdgeegaaRows
import Derived.Test.YtppldgbgdgeegaaQ4
import Derived.Test.YtppldgbgdgeegaaQ3
import Derived.WalkKit
import Derived.ProofKit
import Derived.OpenShut
import Derived.ShutString
import Derived.ChangeOld
import Derived.Below
import Derived.SizedLaws
import Derived.JoinedCond
namespace Go.Proofs.Ytppldgbgdgeegaa.editThreeUp
open Go.ChangeShapes Go.WideShapes Go.ChangeAt Go.RowKit Go.Proofs.Ytppldgbgdgeegaa.G Go.Proofs.YtppldgbgdgeegaaW.PrintWords
open Go.ChangeMaps (open_string shut_string)
set_option linter.unusedVariables false
theorem own : ownKnob Try.prog.godebug = none := by kernel_rfl
theorem laidOut : laidOutB Try.prog = true := by kernel_rfl
set_option maxRecDepth 100000 in
theorem lifted (os : Os) (started : os.Started) (H : Type) (enc : TypeId × Value → H) (F : Stop.Interp) :
    ReturnsInHanded {} Try.checked os 5 .any ((Rows.OpenSpec.upto Rows.editThreeSpec).pre6 enc Try.prog Try.f5 Rows.editThreeUptoRow.domain false) (((Rows.OpenSpec.upto Rows.editThreeSpec).at F).post enc Try.prog Try.f5 false true false false) := by
  refine returnsInHanded_of_cond (C := Try.checked) (s := (Rows.OpenSpec.upto Rows.editThreeSpec)) (k := Rows.uptoSmall) rfl own started (by kernel_rfl) Try.func5
    (OpenSpec.witness (enc := enc) (C := Try.checked) (s := (Rows.OpenSpec.upto Rows.editThreeSpec)) (k := Rows.uptoSmall) rfl false ⟨#[], #[.agg #[.int .i64 0, .int .i64 0, .int .u64 0, .slice none 0 0, .slice none 0 0], .agg #[.int .i64 0, .int .i64 0, .int .u64 0, .slice none 0 0, .slice none 0 0], .agg #[.int .i64 0, .int .i64 0, .int .u64 0, .slice none 0 0, .slice none 0 0]], []⟩ 8 (by kernel_rfl) (by kernel_rfl) (by kernel_rfl)
      (x := ([.agg [.lit (.int .i64 0), .lit (.int .i64 0), .lit (.int .u64 0), .nil, .nil], .agg [.lit (.int .i64 0), .lit (.int .i64 0), .lit (.int .u64 0), .nil, .nil], .agg [.lit (.int .i64 0), .lit (.int .i64 0), .lit (.int .u64 0), .nil, .nil]], [], [])) (by kernel_rfl) rfl (by kernel_rfl)) ?_
  intro W base args ds gs before hval0 hW _ hk _
  have hval : ∀ (j : Nat) t v, Try.f5.params[j]? = some t → args[j]? = some v → Value.okWide Try.prog W .any base t v := hval0
  have hW' := hW
  obtain ⟨p, q, hA0, hV, rfl, hfz, hnd⟩ := hW
  have hA : DataW.TrodAll enc Try.prog W 0 (fun _ => true) true Try.f5.params.toList args.toList ds p := hA0
  rw [Try.params5] at hA hval
  obtain ⟨v0, vs0, d0, ds0, p0, q0, hargs, rfl, rfl, h0, r0⟩ := trodAll_cons hA
  obtain ⟨v1, vs1, d1, ds1, p1, q1, rfl, rfl, rfl, h1, r1⟩ := trodAll_cons r0
  obtain ⟨v2, vs2, d2, ds2, p2, q2, rfl, rfl, rfl, h2, r2⟩ := trodAll_cons r1
  obtain ⟨rfl, rfl, rfl⟩ := trodAll_nil r2
  obtain rfl : args = #[v0, v1, v2] := by cases args; simp_all
  obtain ⟨rfl, rfl⟩ := trodVars_none hV
  have hbk := bulk_bound hk
  simp only [List.append_nil, Rows.uptoBulkAll] at hbk
  have lt0 : ∀ x ∈ p0, x.block < W.heap.size := by obtain ⟨m, hm⟩ := h0; exact DataW.trod_lt m _ _ _ hm
  have k0 := h0
  obtain ⟨fuel0, hf0⟩ := h0
  obtain ⟨x0, hK0, hg0, hb0⟩ := (opens_struct5 Try.underlying31 (by kernel_rfl) rfl rfl rfl rfl rfl (opens_int Try.underlying3 (by kernel_rfl)) (opens_int Try.underlying3 (by kernel_rfl)) (opens_int Try.underlying24 (by kernel_rfl)) (opens_slice Try.underlying28 (by kernel_rfl) (opens_iso (opens_struct2 Try.underlying45 (by kernel_rfl) rfl rfl (opens_int Try.underlying3 (by kernel_rfl)) (opens_int Try.underlying3 (by kernel_rfl))) (fun x : S45 => (x.f0, x.f1)) (fun t => ⟨t.1, t.2⟩) (fun _ => rfl))) (opens_slice Try.underlying29 (by kernel_rfl) (opens_iso (opens_struct2 Try.underlying43 (by kernel_rfl) rfl rfl (opens_int Try.underlying3 (by kernel_rfl)) (opens_iso (opens_struct6 Try.underlying36 (by kernel_rfl) rfl rfl rfl rfl rfl rfl (opens_int Try.underlying3 (by kernel_rfl)) (opens_int Try.underlying3 (by kernel_rfl)) (opens_string Try.underlying9 (by kernel_rfl)) (opens_string Try.underlying9 (by kernel_rfl)) (opens_int Try.underlying24 (by kernel_rfl)) (opens_int Try.underlying24 (by kernel_rfl))) (fun x : S36 => (x.f0, x.f1, x.f2, x.f3, x.f4, x.f5)) (fun t => ⟨t.1, t.2.1, t.2.2.1, t.2.2.2.1, t.2.2.2.2.1, t.2.2.2.2.2⟩) (fun _ => rfl))) (fun x : S43 => (x.f0, x.f1)) (fun t => ⟨t.1, t.2⟩) (fun _ => rfl)))).go hf0
  obtain ⟨cs0, rfl, hsz0⟩ := okWide_struct Try.underlying31 (hval 0 31 v0 rfl rfl)
  have lt1 : ∀ x ∈ p1, x.block < W.heap.size := by obtain ⟨m, hm⟩ := h1; exact DataW.trod_lt m _ _ _ hm
  have k1 := h1
  obtain ⟨fuel1, hf1⟩ := h1
  obtain ⟨x1, hK1, hg1, hb1⟩ := (opens_struct5 Try.underlying31 (by kernel_rfl) rfl rfl rfl rfl rfl (opens_int Try.underlying3 (by kernel_rfl)) (opens_int Try.underlying3 (by kernel_rfl)) (opens_int Try.underlying24 (by kernel_rfl)) (opens_slice Try.underlying28 (by kernel_rfl) (opens_iso (opens_struct2 Try.underlying45 (by kernel_rfl) rfl rfl (opens_int Try.underlying3 (by kernel_rfl)) (opens_int Try.underlying3 (by kernel_rfl))) (fun x : S45 => (x.f0, x.f1)) (fun t => ⟨t.1, t.2⟩) (fun _ => rfl))) (opens_slice Try.underlying29 (by kernel_rfl) (opens_iso (opens_struct2 Try.underlying43 (by kernel_rfl) rfl rfl (opens_int Try.underlying3 (by kernel_rfl)) (opens_iso (opens_struct6 Try.underlying36 (by kernel_rfl) rfl rfl rfl rfl rfl rfl (opens_int Try.underlying3 (by kernel_rfl)) (opens_int Try.underlying3 (by kernel_rfl)) (opens_string Try.underlying9 (by kernel_rfl)) (opens_string Try.underlying9 (by kernel_rfl)) (opens_int Try.underlying24 (by kernel_rfl)) (opens_int Try.underlying24 (by kernel_rfl))) (fun x : S36 => (x.f0, x.f1, x.f2, x.f3, x.f4, x.f5)) (fun t => ⟨t.1, t.2.1, t.2.2.1, t.2.2.2.1, t.2.2.2.2.1, t.2.2.2.2.2⟩) (fun _ => rfl))) (fun x : S43 => (x.f0, x.f1)) (fun t => ⟨t.1, t.2⟩) (fun _ => rfl)))).go hf1
  obtain ⟨cs1, rfl, hsz1⟩ := okWide_struct Try.underlying31 (hval 1 31 v1 rfl rfl)
  have lt2 : ∀ x ∈ p2, x.block < W.heap.size := by obtain ⟨m, hm⟩ := h2; exact DataW.trod_lt m _ _ _ hm
  have k2 := h2
  obtain ⟨fuel2, hf2⟩ := h2
  obtain ⟨x2, hK2, hg2, hb2⟩ := (opens_struct5 Try.underlying31 (by kernel_rfl) rfl rfl rfl rfl rfl (opens_int Try.underlying3 (by kernel_rfl)) (opens_int Try.underlying3 (by kernel_rfl)) (opens_int Try.underlying24 (by kernel_rfl)) (opens_slice Try.underlying28 (by kernel_rfl) (opens_iso (opens_struct2 Try.underlying45 (by kernel_rfl) rfl rfl (opens_int Try.underlying3 (by kernel_rfl)) (opens_int Try.underlying3 (by kernel_rfl))) (fun x : S45 => (x.f0, x.f1)) (fun t => ⟨t.1, t.2⟩) (fun _ => rfl))) (opens_slice Try.underlying29 (by kernel_rfl) (opens_iso (opens_struct2 Try.underlying43 (by kernel_rfl) rfl rfl (opens_int Try.underlying3 (by kernel_rfl)) (opens_iso (opens_struct6 Try.underlying36 (by kernel_rfl) rfl rfl rfl rfl rfl rfl (opens_int Try.underlying3 (by kernel_rfl)) (opens_int Try.underlying3 (by kernel_rfl)) (opens_string Try.underlying9 (by kernel_rfl)) (opens_string Try.underlying9 (by kernel_rfl)) (opens_int Try.underlying24 (by kernel_rfl)) (opens_int Try.underlying24 (by kernel_rfl))) (fun x : S36 => (x.f0, x.f1, x.f2, x.f3, x.f4, x.f5)) (fun t => ⟨t.1, t.2.1, t.2.2.1, t.2.2.2.1, t.2.2.2.2.1, t.2.2.2.2.2⟩) (fun _ => rfl))) (fun x : S43 => (x.f0, x.f1)) (fun t => ⟨t.1, t.2⟩) (fun _ => rfl)))).go hf2
  obtain ⟨cs2, rfl, hsz2⟩ := okWide_struct Try.underlying31 (hval 2 31 v2 rfl rfl)
  (try dsimp only at hb0)
  (try dsimp only at hb1)
  (try dsimp only at hb2)
  refine (EditThree_upto W cs0 x0 hK0 hg0 cs1 x1 hK1 hg1 cs2 x2 hK2 hg2 (by first | omega | (dsimp only at *; omega))).mono fun e W' ⟨he, bel⟩ => ?_
  subst he
  exact ⟨_, rfl, _, _, _, [], _, [], hW', trodAll_mk1 (shut_bool Try.underlying4 _), (trodAll_cons_mk (Below.trod laidOut (by kernel_rfl) (of_decide_eq_true (by kernel_rfl)) k0 bel lt0) (trodAll_cons_mk (Below.trod laidOut (by kernel_rfl) (of_decide_eq_true (by kernel_rfl)) k1 bel lt1) (trodAll_cons_mk (Below.trod laidOut (by kernel_rfl) (of_decide_eq_true (by kernel_rfl)) k2 bel lt2) trodAll_mk0))), rfl, bel.frame _, fun h => by cases h⟩
theorem over : Rows.editThreeUptoRow.holds Try.pinned (Rows.OpenSpec.upto Rows.editThreeSpec) :=
  OpenClaim.holds_of_cond 5 Try.f5 rfl rfl rfl rfl rfl rfl rfl ⟨rfl, rfl, rfl, rfl, rfl⟩ rfl rfl rfl rfl rfl (by kernel_rfl) Try.func5 (by kernel_rfl)
    (of_decide_eq_true (by kernel_rfl)) (by unfold Func.isWrapper; first | (rw [if_pos (by decide +kernel)]; kernel_rfl) | (rw [if_neg (by decide +kernel)]; exact ⟨rfl, rfl⟩))
    (fun os started H enc _ F => lifted os started H enc F)
theorem proved : Rows.EditThreeUptoSaid := over
end Go.Proofs.Ytppldgbgdgeegaa.editThreeUp
namespace Go.Proofs.Ytppldgbgdgeegaa
/-- The row, under a short name, for the claim. -/
theorem editThreeUpto_holds : Rows.EditThreeUptoSaid := editThreeUp.proved
end Go.Proofs.Ytppldgbgdgeegaa
