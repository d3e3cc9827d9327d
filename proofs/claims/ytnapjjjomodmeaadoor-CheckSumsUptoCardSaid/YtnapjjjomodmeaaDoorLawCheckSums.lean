/- Contracts typed by hand: CheckSums holds of every input within the form's reach -/
import Derived.Test.YtnapjjjomodmeaaDoorProg
import Derived.Below
import Derived.Deep.Draws
import Derived.Deep.AppendLies
import Derived.Maps.AppendAt
import Derived.OwnWalk
import Derived.Laws.BytesArg
import Derived.Laws.MakeOwn
import Derived.Laws.OwnMore
import Derived.Deep.OwnRows
import Derived.Tactics
import Derived.Lib.ConvBytes
import Derived.Laws.Slices
import Derived.WalkKit
import Derived.KernelRfl
import Derived.RowKit3
import Derived.Deep.LoopGhost
import Derived.Deep.QuietTactic
import Derived.BigQuiet
import Derived.WideLaws
import Derived.Deep.DeepCutAuto
import Derived.Deep.CutBlock
import Derived.Deep.RegionHeld3
import Derived.Laws.Rows
import Derived.Lib.AppendStr
import Derived.ArgAppend
import Derived.Laws.IdiomCopy
import Derived.OrdersHeld
import Derived.Laws.BitsLemmas
import Derived.RowKit
import Derived.Test.YtnapjjjomodmeaaDoorWWords
import Derived.Test.YtnapjjjomodmeaaDoorWLast
import Derived.Test.YtnapjjjomodmeaaDoorWTab
import Derived.Test.YtnapjjjomodmeaaDoorWFour
import Derived.Test.YtnapjjjomodmeaaDoorWQPut
import Derived.Test.YtnapjjjomodmeaaDoorWApart
import Derived.Test.YtnapjjjomodmeaaDoorWArr
import Derived.Test.YtnapjjjomodmeaaDoorWZeros
import Derived.Test.YtnapjjjomodmeaaDoorWFoot
import Derived.Test.YtnapjjjomodmeaaDoorWKept
import Derived.Test.YtnapjjjomodmeaaDoorWShare
import Derived.Test.YtnapjjjomodmeaaDoorWN
import Derived.Test.YtnapjjjomodmeaaDoorWFootNe
import Derived.Test.YtnapjjjomodmeaaDoorWAt
import Derived.Test.YtnapjjjomodmeaaDoorWEqStruct
import Derived.Test.YtnapjjjomodmeaaDoorWRepsOne
import Derived.Test.YtnapjjjomodmeaaDoorWInv
import Derived.Test.YtnapjjjomodmeaaDoorWInvWords
import Derived.Test.YtnapjjjomodmeaaDoorWGuard
import Derived.Test.YtnapjjjomodmeaaDoorWNEv
import Derived.Test.YtnapjjjomodmeaaDoorWMore
import Derived.Test.YtnapjjjomodmeaaDoorLawCheckRef
import Derived.Test.YtnapjjjomodmeaaDoorManLent02
import Derived.Test.YtnapjjjomodmeaaDoorOpens
import Derived.Test.YtnapjjjomodmeaaDoorGx1
namespace Go.Proofs.YtnapjjjomodmeaaDoor.G
open Go.RowKit Go.Proofs.YtnapjjjomodmeaaDoorW.PrintWords Go.Proofs.YtnapjjjomodmeaaDoorW.PrintLast Go.Proofs.YtnapjjjomodmeaaDoorW.PrintMore
attribute [local go_sem] max2_int min2_int max_two min_two max_three min_three max_four min_four
set_option linter.unusedVariables false
set_option linter.unusedSimpArgs false

/-! CheckSums holds of every input within the form's reach -/
set_option maxHeartbeats 4000000 in
set_option maxRecDepth 100000 in
theorem CheckSums_calls (k : Nat) (A0 : Option Addr) (c0 : Nat) (l0 : List Int) (a1 : Int) (w : World) (hr0 : Kd.C (Kd.int .u8) w A0 l0.length l0) (hc0 : l0.length ≤ c0) (hl : l0.length ≤ 140737488355000) (s1 s2 : Int)
    (h1 : check_Sum.f k l0 = some s1) (h2 : moraineref02_Sum.f k l0 = some s1) (h3 : check_Extend.f k a1 l0 = some s2) (h4 : moraineref02_Extend.f k a1 l0 = some s2) (hTab : TabAt w) :
    Calls Tryd.prog 3 #[.slice A0 l0.length c0, .int .u32 a1] w fun e w' => e = .returned (.bool true) ∧ Below w.heap.size w w' := by
  have H1 := Aside0.mk h1
  have H2 := Aside0.mk h2
  have H3 := Aside0.mk h3
  have H4 := Aside0.mk h4
  have HL := Aside0.mk hl
  have HR := Aside0.mk hr0
  have HC := Aside0.mk hc0
  have HT := Aside0.mk hTab
  have HN := Aside0.mk (show morainelaw02_names.f = some true from rfl)
  clear h1 h2 h3 h4 hl hr0 hc0 hTab
  go_enter Tryd.func3, Tryd.ntmps3
  go_wp2_with fail
  (with_reducible refine (morainelaw02_names.calls true _ HN.out).mono ?_)
  rintro e W0 ⟨rfl, hd⟩
  have BW0 := Aside0.mk (below_step (Below.refl w.heap.size w) hd.below)
  clear hd
  go_wp2_with fail
  (with_reducible refine (morainelaw02_lent.calls _ _ l0 _ (Kd.C_below HR.out BW0.out) HC.out HL.out).mono ?_)
  rintro e W1 ⟨Ai, ci, rfl, ho, hb⟩
  have BW1 := Aside0.mk (below_step BW0.out hb)
  have HIN := Aside0.mk (Kd.R_reads' ho)
  have HP1 := Aside0.mk (C_prefix (ys := [90]) (by simpa using (Kd.R_reads' ho).2.2))
  have HPC := Aside0.mk (show l0.length ≤ ci by have := HIN.out.2.1; omega)
  have BI1 := Aside0.mk (Below.refl W1.heap.size W1)
  clear ho hb
  go_wp2_with fail
  (with_reducible refine (check_Sum.calls k _ _ l0 s1 _ (Kd.C_below HP1.out BI1.out) HPC.out H1.out (HT.out.below BW1.out)).mono ?_)
  rintro e W2 ⟨rfl, hd⟩
  have BW2 := Aside0.mk (below_step BW1.out hd.below)
  have BI2 := Aside0.mk (below_step BI1.out hd.below)
  clear hd
  go_wp2_with fail
  (with_reducible refine (moraineref02_Sum.calls k _ _ l0 s1 _ (Kd.C_below HR.out BW2.out) HC.out H2.out).mono ?_)
  rintro e W3 ⟨rfl, hd⟩
  have BW3 := Aside0.mk (below_step BW2.out hd.below)
  have BI3 := Aside0.mk (below_step BI2.out hd.below)
  clear hd
  go_wp2_with fail
  (with_reducible refine (check_Extend.calls k a1 _ _ l0 s2 _ (Kd.C_below HP1.out BI3.out) HPC.out H3.out (HT.out.below BW3.out)).mono ?_)
  rintro e W4 ⟨rfl, hd⟩
  have BW4 := Aside0.mk (below_step BW3.out hd.below)
  have BI4 := Aside0.mk (below_step BI3.out hd.below)
  clear hd
  go_wp2_with fail
  (with_reducible refine (moraineref02_Extend.calls k a1 _ _ l0 s2 _ (Kd.C_below HR.out BW4.out) HC.out H4.out).mono ?_)
  rintro e W5 ⟨rfl, hd⟩
  have BW5 := Aside0.mk (below_step BW4.out hd.below)
  have BI5 := Aside0.mk (below_step BI4.out hd.below)
  clear hd
  go_wp2_with fail
  (with_reducible refine (morainelaw02_kept.calls _ _ l0 _ _ _ (Kd.C_below (by simpa using HIN.out.2.2) BI5.out) HIN.out.2.1 (Kd.C_below HR.out BW5.out) HL.out).mono ?_)
  rintro e W7 ⟨rfl, hd⟩
  have BW7 := Aside0.mk (below_step BW5.out hd.below)
  clear hd
  go_wp2
  go_ret
  exact ⟨by simp, BW7.out⟩
theorem CheckSums_upto (w : World) (A0 : Option Addr) (c0 : Nat) (l0 : List Int) (hc0 : l0.length ≤ c0) (hr0 : Kd.C (Kd.int .u8) w A0 l0.length l0) (hg0 : ∀ x ∈ l0, (Lit.int .u8 x).wf = true) (a1 : Int) (hg1 : (Lit.int .u32 a1).wf = true) (hbulk : (sumBulk (fun _ => 1) l0 + 1) + 1 ≤ 1048576) (hTab : TabAt w) :
    Calls Tryd.prog 3 #[.slice A0 l0.length c0, .int .u32 a1] w fun e w' => e = .returned (.bool true) ∧ Below w.heap.size w w' := by
  have n0 := sumBulk_len (fun _ => 1) (fun _ => Nat.le_refl 1) l0
  (try simp only [] at hbulk)
  have bf := byt_of_wf hg0
  have q1 := u32_range hg1
  obtain ⟨s, rfl⟩ := Int.eq_ofNat_of_zero_le q1.1
  obtain ⟨K, hK⟩ : ∃ K : Nat, K = 10 * l0.length + 10 := ⟨_, rfl⟩
  exact CheckSums_calls K A0 c0 l0 _ w hr0 hc0 (by omega) _ _ (sum_eq K l0 bf (by omega) (by omega)) (refsum_eq K l0 bf (by omega) (by omega)) (extend_eq K s l0 (by omega) bf (by omega) (by omega)) (refextend_eq K s l0 (by omega) bf (by omega) (by omega)) hTab

end Go.Proofs.YtnapjjjomodmeaaDoor.G
