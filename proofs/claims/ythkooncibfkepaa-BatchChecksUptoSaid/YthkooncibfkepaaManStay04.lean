/- Contracts typed by hand: morainelaw04.stay: such a copy stands as it was -/
import Derived.Test.YthkooncibfkepaaProg
import Derived.Below
import Derived.Deep.Draws
import Derived.Deep.AppendLies
import Derived.Maps.AppendAt
import Derived.OwnWalk
import Derived.Laws.BytesArg
import Derived.Laws.MakeOwn
import Derived.Laws.OwnMore
import Derived.Deep.OwnRows
import Derived.Tactics
import Derived.Lib.ConvBytes
import Derived.Laws.Slices
import Derived.WalkKit
import Derived.KernelRfl
import Derived.RowKit3
import Derived.Deep.LoopGhost
import Derived.Deep.QuietTactic
import Derived.BigQuiet
import Derived.WideLaws
import Derived.Deep.DeepCutAuto
import Derived.Deep.CutBlock
import Derived.Deep.RegionHeld3
import Derived.Laws.Rows
import Derived.Lib.AppendStr
import Derived.ArgAppend
import Derived.Laws.IdiomCopy
import Derived.OrdersHeld
import Derived.Laws.BitsLemmas
import Derived.RowKit
import Derived.Test.YthkooncibfkepaaWWords
import Derived.Test.YthkooncibfkepaaWLast
import Derived.Test.YthkooncibfkepaaWTab
import Derived.Test.YthkooncibfkepaaWFour
import Derived.Test.YthkooncibfkepaaWQPut
import Derived.Test.YthkooncibfkepaaWApart
import Derived.Test.YthkooncibfkepaaWArr
import Derived.Test.YthkooncibfkepaaWZeros
import Derived.Test.YthkooncibfkepaaWFoot
import Derived.Test.YthkooncibfkepaaWKept
import Derived.Test.YthkooncibfkepaaWShare
import Derived.Test.YthkooncibfkepaaWN
import Derived.Test.YthkooncibfkepaaWFootNe
import Derived.Test.YthkooncibfkepaaWAt
import Derived.Test.YthkooncibfkepaaWEqStruct
import Derived.Test.YthkooncibfkepaaWRepsOne
import Derived.Test.YthkooncibfkepaaWInv
import Derived.Test.YthkooncibfkepaaWInvWords
import Derived.Test.YthkooncibfkepaaWGuard
import Derived.Test.YthkooncibfkepaaWNEv
import Derived.Test.YthkooncibfkepaaWMore
import Derived.Test.YthkooncibfkepaaManCopied04
namespace Go.Proofs.Ythkooncibfkepaa.G
open Go.RowKit Go.Proofs.YthkooncibfkepaaW.PrintWords Go.Proofs.YthkooncibfkepaaW.PrintLast Go.Proofs.YthkooncibfkepaaW.PrintMore
attribute [local go_sem] max2_int min2_int max_two min_two max_three min_three max_four min_four
set_option linter.unusedVariables false
set_option linter.unusedSimpArgs false

/-! morainelaw04.stay: such a copy stands as it was -/
theorem same_loop (l : List S65) (hl : l.length ≤ 1099511627776) : ∀ (d i k : Nat), i + d = l.length → morainelaw04_same.l0 (k + d + 1) l l (i : Int) = some true
  | 0, i, k, hi => by rw [morainelaw04_same.l0, if_neg (by omega)]
  | d + 1, i, k, hi => by
    have c0 : (i : Int) < (l.length : Int) := by omega
    have c1 : 0 ≤ (i : Int) := Int.natCast_nonneg _
    have e5 : wrap64 ((i : Int) + 1) = ((i + 1 : Nat) : Int) := by unfold wrap64; omega
    rw [show k + (d + 1) + 1 = (k + d + 1) + 1 by omega, morainelaw04_same.l0, if_pos c0, if_pos c1, if_pos c0, if_neg (by simp), e5]
    exact same_loop l hl d (i + 1) k (by omega)
theorem same_self (l : List S65) (hl : l.length ≤ 1099511627776) : morainelaw04_same.f (l.length + 1) l l = some true := by
  unfold morainelaw04_same.f
  rw [if_pos rfl]
  have := same_loop l hl l.length 0 0 (by omega)
  rw [Nat.zero_add] at this
  exact this
theorem C_prefix65 {w : World} {A : Option Addr} {xs ys : List S65} (h : Kd.C k65 w A (xs.length + ys.length) (xs ++ ys)) : Kd.C k65 w A xs.length xs := by
  rw [← List.length_append] at h
  have h1 := Kd.C_take (m := xs.length) h (by simp)
  rwa [List.take_left] at h1
theorem mark_rd (l : List S65) : rd_T65 (l ++ [mark04]) (l.length : Int) = mark04 := by simp [rd_T65, List.getD_eq_getElem?_getD]
set_option maxHeartbeats 4000000 in
set_option maxRecDepth 100000 in
theorem morainelaw04_stay.calls (A0 : Option Addr) (c0 : Nat) (l0 : List S65) (A1 : Option Addr) (c1 : Nat) (w : World) (hr0 : Kd.C k65 w A0 (l0.length + 1) (l0 ++ [mark04])) (hc0 : l0.length + 1 ≤ c0) (hr1 : Kd.C k65 w A1 l0.length l0) (hc1 : l0.length ≤ c1) (hl : l0.length ≤ 2097152) :
    Calls Try.prog 20 #[.slice A0 l0.length c0, .slice A1 l0.length c1] w fun e w' => e = .returned (.bool true) ∧ Drawn0 w w' := by
  have hu := Try.underlying65
  have HR0 := Aside0.mk (C_prefix65 (ys := [mark04]) hr0)
  have HR1 := Aside0.mk hr1
  have HC1 := Aside0.mk hc1
  have HS := Aside0.mk (same_self l0 (by omega))
  obtain ⟨ad, e1, h0, h1, h2⟩ := at_T65 hr0 (l0.length : Int) (by omega) (by omega)
  rw [mark_rd, Int.toNat_natCast] at h0 h1 h2
  cases e1
  have g0 : w.cell? (ad.add (l0.length * 3)) = some (.int .i64 77) := h0
  have g1 : w.cell? ⟨(ad.add (l0.length * 3)).block, (ad.add (l0.length * 3)).off + 1, none⟩ = some (.string (⟨#[]⟩ : ByteArray)) := h1
  have g2 : w.cell? ⟨(ad.add (l0.length * 3)).block, (ad.add (l0.length * 3)).off + 2, none⟩ = some (.string (⟨#[]⟩ : ByteArray)) := h2
  clear h0 h1 h2 hr0 hr1 hc1
  have HC0 := Aside0.mk (show l0.length ≤ c0 by omega)
  go_enter Try.func20, Try.ntmps20
  go_wp2_with (first | (go_at_call 37; (with_reducible refine (morainelaw04_same.calls _ _ _ l0 _ _ l0 true _ HR0.out HC0.out HR1.out HC1.out HS.out).mono ?_); rintro e w1 ⟨rfl, ⟨n, rfl⟩⟩))
  go_ret
  exact ⟨by simp, ⟨⟨n, rfl⟩⟩⟩

end Go.Proofs.Ythkooncibfkepaa.G
