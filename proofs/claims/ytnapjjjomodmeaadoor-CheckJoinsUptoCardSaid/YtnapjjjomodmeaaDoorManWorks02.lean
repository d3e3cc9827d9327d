/- Contracts typed by hand: morainelaw02.works: the sum that everybody knows -/
import Derived.Test.YtnapjjjomodmeaaDoorProg
import Derived.Below
import Derived.Deep.Draws
import Derived.Deep.AppendLies
import Derived.Maps.AppendAt
import Derived.OwnWalk
import Derived.Laws.BytesArg
import Derived.Laws.MakeOwn
import Derived.Laws.OwnMore
import Derived.Deep.OwnRows
import Derived.Tactics
import Derived.Lib.ConvBytes
import Derived.Laws.Slices
import Derived.WalkKit
import Derived.KernelRfl
import Derived.RowKit3
import Derived.Deep.LoopGhost
import Derived.Deep.QuietTactic
import Derived.BigQuiet
import Derived.WideLaws
import Derived.Deep.DeepCutAuto
import Derived.Deep.CutBlock
import Derived.Deep.RegionHeld3
import Derived.Laws.Rows
import Derived.Lib.AppendStr
import Derived.ArgAppend
import Derived.Laws.IdiomCopy
import Derived.OrdersHeld
import Derived.Laws.BitsLemmas
import Derived.RowKit
import Derived.Test.YtnapjjjomodmeaaDoorWWords
import Derived.Test.YtnapjjjomodmeaaDoorWLast
import Derived.Test.YtnapjjjomodmeaaDoorWTab
import Derived.Test.YtnapjjjomodmeaaDoorWFour
import Derived.Test.YtnapjjjomodmeaaDoorWQPut
import Derived.Test.YtnapjjjomodmeaaDoorWApart
import Derived.Test.YtnapjjjomodmeaaDoorWArr
import Derived.Test.YtnapjjjomodmeaaDoorWZeros
import Derived.Test.YtnapjjjomodmeaaDoorWFoot
import Derived.Test.YtnapjjjomodmeaaDoorWKept
import Derived.Test.YtnapjjjomodmeaaDoorWShare
import Derived.Test.YtnapjjjomodmeaaDoorWN
import Derived.Test.YtnapjjjomodmeaaDoorWFootNe
import Derived.Test.YtnapjjjomodmeaaDoorWAt
import Derived.Test.YtnapjjjomodmeaaDoorWEqStruct
import Derived.Test.YtnapjjjomodmeaaDoorWRepsOne
import Derived.Test.YtnapjjjomodmeaaDoorWInv
import Derived.Test.YtnapjjjomodmeaaDoorWInvWords
import Derived.Test.YtnapjjjomodmeaaDoorWGuard
import Derived.Test.YtnapjjjomodmeaaDoorWNEv
import Derived.Test.YtnapjjjomodmeaaDoorWMore
import Derived.Test.YtnapjjjomodmeaaDoorManTake
import Derived.Lib.SlBytesConst
import Derived.Test.YtnapjjjomodmeaaDoorGx4
namespace Go.Proofs.YtnapjjjomodmeaaDoor.G
open Go.RowKit Go.Proofs.YtnapjjjomodmeaaDoorW.PrintWords Go.Proofs.YtnapjjjomodmeaaDoorW.PrintLast Go.Proofs.YtnapjjjomodmeaaDoorW.PrintMore
attribute [local go_sem] max2_int min2_int max_two min_two max_three min_three max_four min_four
set_option linter.unusedVariables false
set_option linter.unusedSimpArgs false

/-! morainelaw02.works: the sum that everybody knows -/
def w9 : List Int := [49, 50, 51, 52, 53, 54, 55, 56, 57]
theorem lit9_reads (w : World) (fz : Nat × Nat) : Kd.C (Kd.int .u8) (w.alloc (.cells #[.int .u8 49, .int .u8 50, .int .u8 51, .int .u8 52, .int .u8 53, .int .u8 54, .int .u8 55, .int .u8 56, .int .u8 57] 5 fz)) (some ⟨w.heap.size, 0, none⟩) w9.length w9 := by
  refine Kd.C_of_reads (d := (0 : Int)) (h1 := fun _ => rfl) ⟨rfl, by decide, fun _ => ⟨_, rfl, fun j hj => ?_⟩⟩
  rw [add_plain]
  have hh : (w.alloc (.cells #[.int .u8 49, .int .u8 50, .int .u8 51, .int .u8 52, .int .u8 53, .int .u8 54, .int .u8 55, .int .u8 56, .int .u8 57] 5 fz)).heap[w.heap.size]? = some (.cells #[.int .u8 49, .int .u8 50, .int .u8 51, .int .u8 52, .int .u8 53, .int .u8 54, .int .u8 55, .int .u8 56, .int .u8 57] 5 fz) := by
    show (w.heap.push _)[w.heap.size]? = _
    simp
  unfold World.cell?
  rw [hh]
  match j, hj with
  | 0, _ => rfl
  | 1, _ => rfl
  | 2, _ => rfl
  | 3, _ => rfl
  | 4, _ => rfl
  | 5, _ => rfl
  | 6, _ => rfl
  | 7, _ => rfl
  | 8, _ => rfl
  | n + 9, h => exact absurd h (by simp [w9])
def morainelaw02_works.f (k : Nat) : Option (Bool) := (check_Sum.f k w9).bind fun t => some (t == 3808858755)
theorem morainelaw02_works.mono : ∀ k, LeO (morainelaw02_works.f k) (morainelaw02_works.f (k + 1)) := by
  intro k
  unfold morainelaw02_works.f
  exact LeO.bind (check_Sum.mono _ _) fun _ => LeO.refl _
set_option maxHeartbeats 2000000 in
theorem morainelaw02_works.calls (k : Nat) (r : Bool) (w : World) (h : morainelaw02_works.f k = some r) (hTab : TabAt w) :
    Calls Tryd.prog 16 #[] w fun e w' => e = .returned (.bool r) ∧ Below w.heap.size w w' := by
  unfold morainelaw02_works.f at h
  obtain ⟨t, ht, h2⟩ := Option.bind_eq_some_iff.1 h
  have HS := Aside0.mk ht
  have HE := Aside0.mk (Option.some.inj h2)
  have HT := Aside0.mk hTab
  clear h ht h2 hTab
  have hc : ∀ fz : Nat × Nat, Calls Tryd.prog 11 #[.slice (some ⟨w.heap.size, 0, none⟩) 9 9] (w.alloc (.cells #[.int .u8 49, .int .u8 50, .int .u8 51, .int .u8 52, .int .u8 53, .int .u8 54, .int .u8 55, .int .u8 56, .int .u8 57] 5 fz)) fun e w' => e = .returned (.int .u32 t) ∧ Drawn0 (w.alloc (.cells #[.int .u8 49, .int .u8 50, .int .u8 51, .int .u8 52, .int .u8 53, .int .u8 54, .int .u8 55, .int .u8 56, .int .u8 57] 5 fz)) w' :=
    fun fz => check_Sum.calls k (some ⟨w.heap.size, 0, none⟩) 9 w9 t _ (lit9_reads w fz) (by decide) HS.out (HT.out.alloc _)
  have HC9 := Aside0.mk hc
  clear hc
  have kc := fun (w : World) (C : Array Value) (n c : Nat) => Lib.run_convert_bytes_const (P := Tryd.prog) w 22 5 C n c Tryd.underlying22 Tryd.underlying5
  go_enter Tryd.func16, Tryd.ntmps16
  go_wp2_with fail
  (with_reducible refine (HC9.out (9, 10)).mono ?_)
  rintro e w1 ⟨rfl, hd⟩
  have hb := below_step (below_alloc (Below.refl w.heap.size w) _) hd.below
  have HB := Aside0.mk hb
  clear hd hb kc
  go_wp2
  go_ret
  exact ⟨by first | rfl | (rw [HE.out]; rfl), HB.out⟩

end Go.Proofs.YtnapjjjomodmeaaDoor.G
