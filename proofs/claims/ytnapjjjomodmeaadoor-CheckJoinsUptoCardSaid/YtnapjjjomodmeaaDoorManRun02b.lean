/- Contracts typed by hand: Running.Join -/
import Derived.Test.YtnapjjjomodmeaaDoorProg
import Derived.Below
import Derived.Deep.Draws
import Derived.Deep.AppendLies
import Derived.Maps.AppendAt
import Derived.OwnWalk
import Derived.Laws.BytesArg
import Derived.Laws.MakeOwn
import Derived.Laws.OwnMore
import Derived.Deep.OwnRows
import Derived.Tactics
import Derived.Lib.ConvBytes
import Derived.Laws.Slices
import Derived.WalkKit
import Derived.KernelRfl
import Derived.RowKit3
import Derived.Deep.LoopGhost
import Derived.Deep.QuietTactic
import Derived.BigQuiet
import Derived.WideLaws
import Derived.Deep.DeepCutAuto
import Derived.Deep.CutBlock
import Derived.Deep.RegionHeld3
import Derived.Laws.Rows
import Derived.Lib.AppendStr
import Derived.ArgAppend
import Derived.Laws.IdiomCopy
import Derived.OrdersHeld
import Derived.Laws.BitsLemmas
import Derived.RowKit
import Derived.Test.YtnapjjjomodmeaaDoorWWords
import Derived.Test.YtnapjjjomodmeaaDoorWLast
import Derived.Test.YtnapjjjomodmeaaDoorWTab
import Derived.Test.YtnapjjjomodmeaaDoorWFour
import Derived.Test.YtnapjjjomodmeaaDoorWQPut
import Derived.Test.YtnapjjjomodmeaaDoorWApart
import Derived.Test.YtnapjjjomodmeaaDoorWArr
import Derived.Test.YtnapjjjomodmeaaDoorWZeros
import Derived.Test.YtnapjjjomodmeaaDoorWFoot
import Derived.Test.YtnapjjjomodmeaaDoorWKept
import Derived.Test.YtnapjjjomodmeaaDoorWShare
import Derived.Test.YtnapjjjomodmeaaDoorWN
import Derived.Test.YtnapjjjomodmeaaDoorWFootNe
import Derived.Test.YtnapjjjomodmeaaDoorWAt
import Derived.Test.YtnapjjjomodmeaaDoorWEqStruct
import Derived.Test.YtnapjjjomodmeaaDoorWRepsOne
import Derived.Test.YtnapjjjomodmeaaDoorWInv
import Derived.Test.YtnapjjjomodmeaaDoorWInvWords
import Derived.Test.YtnapjjjomodmeaaDoorWGuard
import Derived.Test.YtnapjjjomodmeaaDoorWNEv
import Derived.Test.YtnapjjjomodmeaaDoorWMore
import Derived.Test.YtnapjjjomodmeaaDoorManRun02
namespace Go.Proofs.YtnapjjjomodmeaaDoor.G
open Go.RowKit Go.Proofs.YtnapjjjomodmeaaDoorW.PrintWords Go.Proofs.YtnapjjjomodmeaaDoorW.PrintLast Go.Proofs.YtnapjjjomodmeaaDoorW.PrintMore
attribute [local go_sem] max2_int min2_int max_two min_two max_three min_three max_four min_four
set_option linter.unusedVariables false
set_option linter.unusedSimpArgs false

/-! Running.Join -/
set_option maxHeartbeats 4000000 in
set_option maxRecDepth 100000 in
theorem join_calls (b g : Nat) (s n s2 n2 r : Int) (w : World) (h : RunAt w b s n) (hg : RunAt w g s2 n2) (hne : b ≠ g) (hf : check_Combine.f s s2 n2 = some (r, 0)) (h0 : 0 ≤ n) (h1 : 0 ≤ n2) (h2 : n2 + n ≤ 9007199254740992) :
    Calls Tryd.prog 24 #[.pointer (some ⟨b, 0, none⟩), .pointer (some ⟨g, 0, none⟩)] w fun e w' => e = .returned (.int .i64 0) ∧ RunAt w' b r (n + n2) ∧ Touch b w w' := by
  have HR := Aside0.mk h
  have HG := Aside0.mk hg
  have HF := Aside0.mk hf
  have c0 := h.c0
  have c1 := h.c1
  have c2 := h.c2
  have k0 := hg.c0
  have k1 := hg.c1
  have k2 := hg.c2
  have hu := Tryd.underlying52
  have H0 := Aside0.mk h0
  have H1 := Aside0.mk h1
  have H2 := Aside0.mk h2
  have EW := Aside0.mk (wri (n + n2) (by omega) (by omega))
  clear h hg hf h0 h1 h2 hne
  go_enter Tryd.func24, Tryd.ntmps24
  go_wp2_with (first | (go_at_call 31; (with_reducible refine (room_calls b s n n2 _ HR.out H0.out H1.out H2.out).mono ?_); rintro e w1 ⟨rfl, rfl⟩))
  go_region_held2 (fun w' => w'.cell? ⟨b, 1, none⟩ = some (.int .u32 s) ∧ w'.cell? ⟨g, 1, none⟩ = some (.int .u32 s2) ∧ w'.cell? ⟨g, 2, none⟩ = some (.int .i64 n2)) (first | exact ⟨HR4.out.c1, HG4.out.c1, HG4.out.c2⟩ | exact ⟨HR.out.drew.c1, HG.out.drew.c1, HG.out.drew.c2⟩) (first | (go_at_call 20; (with_reducible refine (check_Combine.calls s s2 n2 r 0 _ HF.out).mono ?_); rintro e w4 ⟨rfl, hd⟩; have HR4 := Aside0.mk (HR.out.drew.below hd); have HG4 := Aside0.mk (HG.out.drew.below hd); have HT4 := Aside0.mk (Touch.of_below (b := b) (below_step (below_drew (Below.refl _ _)) hd)); have d1 := HR4.out.c1; have d2 := HR4.out.c2; have f1 := HR4.out.fr 1; have f2 := HR4.out.fr 2; have e2 := HG4.out.c2; clear hd))
  go_wp2_with fail
  go_region_with fail
  all_goals (go_wp2; go_ret; rw [EW.out])
  all_goals (first | exact ⟨rfl, (HR4.out.drew.set1 _).set2 _, ((HT4.out.drew).set 1 _).set 2 _⟩ | exact ⟨rfl, (HR4.out.drew.set2 _).set1 _, ((HT4.out.drew).set 2 _).set 1 _⟩)

end Go.Proofs.YtnapjjjomodmeaaDoor.G
