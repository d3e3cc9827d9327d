/- Contracts of functions and plain laws, several texts of the session put together by its program. -/
import Derived.Test.YtmpkigambfghgaaDoorQ0
import Derived.Test.YtmpkigambfghgaaDoorQ1
import Derived.Test.YtmpkigambfghgaaDoorProg
import Derived.Below
import Derived.Deep.Draws
import Derived.Deep.AppendLies
import Derived.Maps.AppendAt
import Derived.OwnWalk
import Derived.Laws.BytesArg
import Derived.Laws.MakeOwn
import Derived.Laws.OwnMore
import Derived.Deep.OwnRows
import Derived.Tactics
import Derived.Lib.ConvBytes
import Derived.Laws.Slices
import Derived.WalkKit
import Derived.KernelRfl
import Derived.RowKit3
import Derived.Deep.LoopGhost
import Derived.Deep.QuietTactic
import Derived.BigQuiet
import Derived.WideLaws
import Derived.Deep.DeepCutAuto
import Derived.Deep.CutBlock
import Derived.Deep.RegionHeld3
import Derived.Laws.Rows
import Derived.Lib.AppendStr
import Derived.ArgAppend
import Derived.Laws.IdiomCopy
import Derived.OrdersHeld
import Derived.Laws.BitsLemmas
import Derived.RowKit
import Derived.Test.YtmpkigambfghgaaDoorWWords
import Derived.Test.YtmpkigambfghgaaDoorWLast
import Derived.Test.YtmpkigambfghgaaDoorWTab
import Derived.Test.YtmpkigambfghgaaDoorWFour
import Derived.Test.YtmpkigambfghgaaDoorWQPut
import Derived.Test.YtmpkigambfghgaaDoorWApart
import Derived.Test.YtmpkigambfghgaaDoorWArr
import Derived.Test.YtmpkigambfghgaaDoorWZeros
import Derived.Test.YtmpkigambfghgaaDoorWFoot
import Derived.Test.YtmpkigambfghgaaDoorWKept
import Derived.Test.YtmpkigambfghgaaDoorWShare
import Derived.Test.YtmpkigambfghgaaDoorWN
import Derived.Test.YtmpkigambfghgaaDoorWFootNe
import Derived.Test.YtmpkigambfghgaaDoorWAt
import Derived.Test.YtmpkigambfghgaaDoorWEqStruct
import Derived.Test.YtmpkigambfghgaaDoorWRepsOne
import Derived.Test.YtmpkigambfghgaaDoorWInv
import Derived.Test.YtmpkigambfghgaaDoorWInvWords
import Derived.Test.YtmpkigambfghgaaDoorWGuard
import Derived.Test.YtmpkigambfghgaaDoorWNEv
import Derived.Test.YtmpkigambfghgaaDoorWMore
import Derived.Sort.QuietIn
import Derived.RangeFuncCalls
import Derived.TacticsInMore
import Derived.OwnWalkIn

/- Printed by the session's program over the kit's print, out of the translation: functions as plain Lean functions, and the proofs that the calls come to them. -/
namespace Go.Proofs.YtmpkigambfghgaaDoor.G
open Go.RowKit Go.Proofs.YtmpkigambfghgaaDoorW.PrintWords Go.Proofs.YtmpkigambfghgaaDoorW.PrintLast Go.Proofs.YtmpkigambfghgaaDoorW.PrintMore
attribute [local go_sem] max2_int min2_int max_two min_two max_three min_three max_four min_four   -- for this text's walks alone
set_option linter.unusedVariables false
set_option linter.unusedSimpArgs false

/-! ### moraineref07_Read: function 25 -/
mutual
def moraineref07_Read.l0 : Nat → Int → List Int → List (S60) → List Int → Bool → Int → Option ((List (S60)) × Int)
  | 0, _, _, _, _, _, _ => none
  | k + 1, x0, x1, x6, x7, x8, x9 => if x9 ≥ (x1.length : Int) then (if x8 = true then (some (x6, 1)) else (some (x6, 0))) else (if x0 = 0 then (none) else (if (wrap64 (x0 - (Int.tmod x9 x0))) < 7 then (if (wrap64 (x9 + (wrap64 (x0 - (Int.tmod x9 x0))))) > (x1.length : Int) then (if 0 ≤ x9 then (if x9 ≤ (x1.length : Int) then (if (x1.length : Int) ≤ (x1.length : Int) then ((moraineref07_noughts.f k ((x1.take ((x1.length : Int) : Int).toNat).drop (x9 : Int).toNat)).bind fun t258 => (if t258 = true then (moraineref07_Read.l0 k x0 x1 x6 x7 x8 (x1.length : Int)) else (some (x6, 2)))) else (none)) else (none)) else (none)) else (if 0 ≤ x9 then (if x9 ≤ (wrap64 (x9 + (wrap64 (x0 - (Int.tmod x9 x0))))) then (if (wrap64 (x9 + (wrap64 (x0 - (Int.tmod x9 x0))))) ≤ (x1.length : Int) then ((moraineref07_noughts.f k ((x1.take ((wrap64 (x9 + (wrap64 (x0 - (Int.tmod x9 x0))))) : Int).toNat).drop (x9 : Int).toNat)).bind fun t260 => (if t260 = true then (moraineref07_Read.l0 k x0 x1 x6 x7 x8 (wrap64 (x9 + (wrap64 (x0 - (Int.tmod x9 x0)))))) else (some (x6, 2)))) else (none)) else (none)) else (none))) else (if (wrap64 ((x1.length : Int) - x9)) < 7 then (some (x6, 1)) else ((moraineref01_ReadFixed.f k x1 x9 4).bind fun bt261 => (if 0 ≤ (wrap64 (x9 + 4)) then (if (wrap64 (x9 + 4)) < (x1.length : Int) then (if 0 ≤ (wrap64 (x9 + 5)) then (if (wrap64 (x9 + 5)) < (x1.length : Int) then (if 0 ≤ (wrap64 (x9 + 6)) then (if (wrap64 (x9 + 6)) < (x1.length : Int) then (if (wrap64 (rd x1 (wrap64 (x9 + 6)))) < 1 then (moraineref07_Read.j1 k x0 x1 x6 x7 x8 x9 bt261.1 (wrap64 ((wrap64 (rd x1 (wrap64 (x9 + 4)))) + (wrap64 ((wrap64 (rd x1 (wrap64 (x9 + 5)))) * 256)))) (wrap64 (rd x1 (wrap64 (x9 + 6)))) true) else (if (wrap64 (rd x1 (wrap64 (x9 + 6)))) > 4 then (moraineref07_Read.j1 k x0 x1 x6 x7 x8 x9 bt261.1 (wrap64 ((wrap64 (rd x1 (wrap64 (x9 + 4)))) + (wrap64 ((wrap64 (rd x1 (wrap64 (x9 + 5)))) * 256)))) (wrap64 (rd x1 (wrap64 (x9 + 6)))) true) else (moraineref07_Read.j1 k x0 x1 x6 x7 x8 x9 bt261.1 (wrap64 ((wrap64 (rd x1 (wrap64 (x9 + 4)))) + (wrap64 ((wrap64 (rd x1 (wrap64 (x9 + 5)))) * 256)))) (wrap64 (rd x1 (wrap64 (x9 + 6)))) (decide ((wrap64 ((wrap64 (rd x1 (wrap64 (x9 + 4)))) + (wrap64 ((wrap64 (rd x1 (wrap64 (x9 + 5)))) * 256)))) > (wrap64 ((wrap64 (x0 - (Int.tmod x9 x0))) - 7))))))) else (none)) else (none)) else (none)) else (none)) else (none)) else (none))))))
def moraineref07_Read.j1 : Nat → Int → List Int → List (S60) → List Int → Bool → Int → Int → Int → Int → Bool → Option ((List (S60)) × Int)
  | 0, _, _, _, _, _, _, _, _, _, _ => none
  | k + 1, x0, x1, x6, x7, x8, x9, x12, x15, x16, x93 => if x93 = true then (some (x6, 2)) else (if (wrap64 ((wrap64 ((x1.length : Int) - x9)) - 7)) < x15 then (some (x6, 1)) else (if 0 ≤ (wrap64 (x9 + 6)) then (if (wrap64 (x9 + 6)) ≤ (wrap64 ((wrap64 (x9 + 7)) + x15)) then (if (wrap64 ((wrap64 (x9 + 7)) + x15)) ≤ (x1.length : Int) then ((moraineref02_Sum.f k ((x1.take ((wrap64 ((wrap64 (x9 + 7)) + x15)) : Int).toNat).drop ((wrap64 (x9 + 6)) : Int).toNat)).bind fun t268 => ((moraineref02_Mask.f t268).bind fun t269 => (if ((x12) % 4294967296) = t269 then (if x16 = 1 then (moraineref07_Read.j2 k x0 x1 x6 x7 x9 x15 x16 ((x1.take ((wrap64 ((wrap64 (x9 + 7)) + x15)) : Int).toNat).drop ((wrap64 (x9 + 6)) : Int).toNat) (true == x8)) else (moraineref07_Read.j2 k x0 x1 x6 x7 x9 x15 x16 ((x1.take ((wrap64 ((wrap64 (x9 + 7)) + x15)) : Int).toNat).drop ((wrap64 (x9 + 6)) : Int).toNat) ((x16 == 2) == x8))) else (moraineref07_Read.j2 k x0 x1 x6 x7 x9 x15 x16 ((x1.take ((wrap64 ((wrap64 (x9 + 7)) + x15)) : Int).toNat).drop ((wrap64 (x9 + 6)) : Int).toNat) true)))) else (none)) else (none)) else (none)))
def moraineref07_Read.j2 : Nat → Int → List Int → List (S60) → List Int → Int → Int → Int → List Int → Bool → Option ((List (S60)) × Int)
  | 0, _, _, _, _, _, _, _, _, _ => none
  | k + 1, x0, x1, x6, x7, x9, x15, x16, x17, x126 => if x126 = true then (some (x6, 2)) else (if x16 = 1 then (moraineref07_Read.j3 k x0 x1 x6 x7 x9 x15 x16 x17 true) else (moraineref07_Read.j3 k x0 x1 x6 x7 x9 x15 x16 x17 (x16 == 2)))
def moraineref07_Read.j3 : Nat → Int → List Int → List (S60) → List Int → Int → Int → Int → List Int → Bool → Option ((List (S60)) × Int)
  | 0, _, _, _, _, _, _, _, _, _ => none
  | k + 1, x0, x1, x6, x7, x9, x15, x16, x17, x133 => if x133 = true then (moraineref07_Read.j4 k x0 x1 x6 ([] : List Int) x9 x15 x16 x17) else (moraineref07_Read.j4 k x0 x1 x6 x7 x9 x15 x16 x17)
def moraineref07_Read.j4 : Nat → Int → List Int → List (S60) → List Int → Int → Int → Int → List Int → Option ((List (S60)) × Int)
  | 0, _, _, _, _, _, _, _, _ => none
  | k + 1, x0, x1, x6, x7, x9, x15, x16, x17 => if 1 ≤ (x17.length : Int) then (if x7.length + (x17.drop 1).length < 140737488355328 then ((some (x7 ++ (x17.drop 1) : List Int)).bind fun y271 => (if (y271.length : Int) > 2097152 then (some (x6, 2)) else (if x16 = 2 then (moraineref07_Read.l0 k x0 x1 x6 y271 true (wrap64 ((wrap64 (x9 + 7)) + x15))) else (if x16 = 3 then (moraineref07_Read.l0 k x0 x1 x6 y271 (x16 == 3) (wrap64 ((wrap64 (x9 + 7)) + x15))) else ((some (([] : List Int) : List Int)).bind fun y274 => (if y274.length + y271.length < 140737488355328 then (if x6.length < 4398046511104 then (moraineref07_Read.l0 k x0 x1 (x6 ++ [(⟨(y274 ++ y271), wrap64 ((wrap64 (x9 + 7)) + x15)⟩ : S60)]) y271 (x16 == 3) (wrap64 ((wrap64 (x9 + 7)) + x15))) else (none)) else (none))))))) else (none)) else (none)
end
def moraineref07_Read.f (k : Nat) (a0 : Int) (l1 : List Int) : Option ((List (S60)) × Int) := moraineref07_Read.l0 k a0 l1 ([] : List (S60)) ([] : List Int) false 0
theorem moraineref07_Read.mono_l : ∀ k, (∀ y0 y1 y2 y3 y4 y5, LeO (moraineref07_Read.l0 k y0 y1 y2 y3 y4 y5) (moraineref07_Read.l0 (k + 1) y0 y1 y2 y3 y4 y5)) ∧ (∀ y0 y1 y2 y3 y4 y5 y6 y7 y8 y9, LeO (moraineref07_Read.j1 k y0 y1 y2 y3 y4 y5 y6 y7 y8 y9) (moraineref07_Read.j1 (k + 1) y0 y1 y2 y3 y4 y5 y6 y7 y8 y9)) ∧ (∀ y0 y1 y2 y3 y4 y5 y6 y7 y8, LeO (moraineref07_Read.j2 k y0 y1 y2 y3 y4 y5 y6 y7 y8) (moraineref07_Read.j2 (k + 1) y0 y1 y2 y3 y4 y5 y6 y7 y8)) ∧ (∀ y0 y1 y2 y3 y4 y5 y6 y7 y8, LeO (moraineref07_Read.j3 k y0 y1 y2 y3 y4 y5 y6 y7 y8) (moraineref07_Read.j3 (k + 1) y0 y1 y2 y3 y4 y5 y6 y7 y8)) ∧ (∀ y0 y1 y2 y3 y4 y5 y6 y7, LeO (moraineref07_Read.j4 k y0 y1 y2 y3 y4 y5 y6 y7) (moraineref07_Read.j4 (k + 1) y0 y1 y2 y3 y4 y5 y6 y7))
  | 0 => ⟨fun _ _ _ _ _ _ r h => by simp [moraineref07_Read.l0] at h, fun _ _ _ _ _ _ _ _ _ _ r h => by simp [moraineref07_Read.j1] at h, fun _ _ _ _ _ _ _ _ _ r h => by simp [moraineref07_Read.j2] at h, fun _ _ _ _ _ _ _ _ _ r h => by simp [moraineref07_Read.j3] at h, fun _ _ _ _ _ _ _ _ r h => by simp [moraineref07_Read.j4] at h⟩
  | k + 1 => by
    obtain ⟨ih0, ih1, ih2, ih3, ih4⟩ := moraineref07_Read.mono_l k
    refine ⟨?_, ?_, ?_, ?_, ?_⟩
    · intro y0 y1 y2 y3 y4 y5
      unfold moraineref07_Read.l0
      repeat' first
      | (with_reducible exact ih0 _ _ _ _ _ _)
      | (with_reducible exact ih1 _ _ _ _ _ _ _ _ _ _)
      | (with_reducible exact ih2 _ _ _ _ _ _ _ _ _)
      | (with_reducible exact ih3 _ _ _ _ _ _ _ _ _)
      | (with_reducible exact ih4 _ _ _ _ _ _ _ _)
      | (with_reducible exact moraineref01_ReadFixed.mono _ _ _ _)
      | (with_reducible exact moraineref02_Sum.mono _ _)
      | (with_reducible exact moraineref07_noughts.mono _ _)
      | (with_reducible exact LeO.refl _)
      | (with_reducible exact LeO.none _)
      | (with_reducible refine LeO.ite ?_ ?_)
      | (with_reducible refine LeO.bind ?_ (fun _ => ?_))
      | exact ih0 _ _ _ _ _ _
      | exact ih1 _ _ _ _ _ _ _ _ _ _
      | exact ih2 _ _ _ _ _ _ _ _ _
      | exact ih3 _ _ _ _ _ _ _ _ _
      | exact ih4 _ _ _ _ _ _ _ _
      | exact moraineref01_ReadFixed.mono _ _ _ _
      | exact moraineref02_Sum.mono _ _
      | exact moraineref07_noughts.mono _ _
      | exact LeO.none _
      | refine LeO.ite ?_ ?_
      | refine LeO.bind ?_ (fun _ => ?_)
    · intro y0 y1 y2 y3 y4 y5 y6 y7 y8 y9
      unfold moraineref07_Read.j1
      repeat' first
      | (with_reducible exact ih0 _ _ _ _ _ _)
      | (with_reducible exact ih1 _ _ _ _ _ _ _ _ _ _)
      | (with_reducible exact ih2 _ _ _ _ _ _ _ _ _)
      | (with_reducible exact ih3 _ _ _ _ _ _ _ _ _)
      | (with_reducible exact ih4 _ _ _ _ _ _ _ _)
      | (with_reducible exact moraineref01_ReadFixed.mono _ _ _ _)
      | (with_reducible exact moraineref02_Sum.mono _ _)
      | (with_reducible exact moraineref07_noughts.mono _ _)
      | (with_reducible exact LeO.refl _)
      | (with_reducible exact LeO.none _)
      | (with_reducible refine LeO.ite ?_ ?_)
      | (with_reducible refine LeO.bind ?_ (fun _ => ?_))
      | exact ih0 _ _ _ _ _ _
      | exact ih1 _ _ _ _ _ _ _ _ _ _
      | exact ih2 _ _ _ _ _ _ _ _ _
      | exact ih3 _ _ _ _ _ _ _ _ _
      | exact ih4 _ _ _ _ _ _ _ _
      | exact moraineref01_ReadFixed.mono _ _ _ _
      | exact moraineref02_Sum.mono _ _
      | exact moraineref07_noughts.mono _ _
      | exact LeO.none _
      | refine LeO.ite ?_ ?_
      | refine LeO.bind ?_ (fun _ => ?_)
    · intro y0 y1 y2 y3 y4 y5 y6 y7 y8
      unfold moraineref07_Read.j2
      repeat' first
      | (with_reducible exact ih0 _ _ _ _ _ _)
      | (with_reducible exact ih1 _ _ _ _ _ _ _ _ _ _)
      | (with_reducible exact ih2 _ _ _ _ _ _ _ _ _)
      | (with_reducible exact ih3 _ _ _ _ _ _ _ _ _)
      | (with_reducible exact ih4 _ _ _ _ _ _ _ _)
      | (with_reducible exact moraineref01_ReadFixed.mono _ _ _ _)
      | (with_reducible exact moraineref02_Sum.mono _ _)
      | (with_reducible exact moraineref07_noughts.mono _ _)
      | (with_reducible exact LeO.refl _)
      | (with_reducible exact LeO.none _)
      | (with_reducible refine LeO.ite ?_ ?_)
      | (with_reducible refine LeO.bind ?_ (fun _ => ?_))
      | exact ih0 _ _ _ _ _ _
      | exact ih1 _ _ _ _ _ _ _ _ _ _
      | exact ih2 _ _ _ _ _ _ _ _ _
      | exact ih3 _ _ _ _ _ _ _ _ _
      | exact ih4 _ _ _ _ _ _ _ _
      | exact moraineref01_ReadFixed.mono _ _ _ _
      | exact moraineref02_Sum.mono _ _
      | exact moraineref07_noughts.mono _ _
      | exact LeO.none _
      | refine LeO.ite ?_ ?_
      | refine LeO.bind ?_ (fun _ => ?_)
    · intro y0 y1 y2 y3 y4 y5 y6 y7 y8
      unfold moraineref07_Read.j3
      repeat' first
      | (with_reducible exact ih0 _ _ _ _ _ _)
      | (with_reducible exact ih1 _ _ _ _ _ _ _ _ _ _)
      | (with_reducible exact ih2 _ _ _ _ _ _ _ _ _)
      | (with_reducible exact ih3 _ _ _ _ _ _ _ _ _)
      | (with_reducible exact ih4 _ _ _ _ _ _ _ _)
      | (with_reducible exact moraineref01_ReadFixed.mono _ _ _ _)
      | (with_reducible exact moraineref02_Sum.mono _ _)
      | (with_reducible exact moraineref07_noughts.mono _ _)
      | (with_reducible exact LeO.refl _)
      | (with_reducible exact LeO.none _)
      | (with_reducible refine LeO.ite ?_ ?_)
      | (with_reducible refine LeO.bind ?_ (fun _ => ?_))
      | exact ih0 _ _ _ _ _ _
      | exact ih1 _ _ _ _ _ _ _ _ _ _
      | exact ih2 _ _ _ _ _ _ _ _ _
      | exact ih3 _ _ _ _ _ _ _ _ _
      | exact ih4 _ _ _ _ _ _ _ _
      | exact moraineref01_ReadFixed.mono _ _ _ _
      | exact moraineref02_Sum.mono _ _
      | exact moraineref07_noughts.mono _ _
      | exact LeO.none _
      | refine LeO.ite ?_ ?_
      | refine LeO.bind ?_ (fun _ => ?_)
    · intro y0 y1 y2 y3 y4 y5 y6 y7
      unfold moraineref07_Read.j4
      repeat' first
      | (with_reducible exact ih0 _ _ _ _ _ _)
      | (with_reducible exact ih1 _ _ _ _ _ _ _ _ _ _)
      | (with_reducible exact ih2 _ _ _ _ _ _ _ _ _)
      | (with_reducible exact ih3 _ _ _ _ _ _ _ _ _)
      | (with_reducible exact ih4 _ _ _ _ _ _ _ _)
      | (with_reducible exact moraineref01_ReadFixed.mono _ _ _ _)
      | (with_reducible exact moraineref02_Sum.mono _ _)
      | (with_reducible exact moraineref07_noughts.mono _ _)
      | (with_reducible exact LeO.refl _)
      | (with_reducible exact LeO.none _)
      | (with_reducible refine LeO.ite ?_ ?_)
      | (with_reducible refine LeO.bind ?_ (fun _ => ?_))
      | exact ih0 _ _ _ _ _ _
      | exact ih1 _ _ _ _ _ _ _ _ _ _
      | exact ih2 _ _ _ _ _ _ _ _ _
      | exact ih3 _ _ _ _ _ _ _ _ _
      | exact ih4 _ _ _ _ _ _ _ _
      | exact moraineref01_ReadFixed.mono _ _ _ _
      | exact moraineref02_Sum.mono _ _
      | exact moraineref07_noughts.mono _ _
      | exact LeO.none _
      | refine LeO.ite ?_ ?_
      | refine LeO.bind ?_ (fun _ => ?_)
theorem moraineref07_Read.mono : ∀ a0 a1 k, LeO (moraineref07_Read.f k a0 a1) (moraineref07_Read.f (k + 1) a0 a1) := by
  intro a0 a1 k
  obtain ⟨ih0, ih1, ih2, ih3, ih4⟩ := moraineref07_Read.mono_l k
  unfold moraineref07_Read.f
  repeat' first
      | (with_reducible exact ih0 _ _ _ _ _ _)
      | (with_reducible exact ih1 _ _ _ _ _ _ _ _ _ _)
      | (with_reducible exact ih2 _ _ _ _ _ _ _ _ _)
      | (with_reducible exact ih3 _ _ _ _ _ _ _ _ _)
      | (with_reducible exact ih4 _ _ _ _ _ _ _ _)
      | (with_reducible exact moraineref01_ReadFixed.mono _ _ _ _)
      | (with_reducible exact moraineref02_Sum.mono _ _)
      | (with_reducible exact moraineref07_noughts.mono _ _)
      | (with_reducible exact LeO.refl _)
      | (with_reducible exact LeO.none _)
      | (with_reducible refine LeO.ite ?_ ?_)
      | (with_reducible refine LeO.bind ?_ (fun _ => ?_))
      | exact ih0 _ _ _ _ _ _
      | exact ih1 _ _ _ _ _ _ _ _ _ _
      | exact ih2 _ _ _ _ _ _ _ _ _
      | exact ih3 _ _ _ _ _ _ _ _ _
      | exact ih4 _ _ _ _ _ _ _ _
      | exact moraineref01_ReadFixed.mono _ _ _ _
      | exact moraineref02_Sum.mono _ _
      | exact moraineref07_noughts.mono _ _
      | exact LeO.none _
      | refine LeO.ite ?_ ?_
      | refine LeO.bind ?_ (fun _ => ?_)
set_option maxHeartbeats 8000000 in
set_option maxRecDepth 100000 in
theorem moraineref07_Read.calls (k : Nat) (a0 : Int) (A1 : Option Addr) (c1 : Nat) (l1 : List Int) (r1 : List (S60)) (r2 : Int) (w : World) (hr1 : Kd.C (Kd.int .u8) w A1 l1.length l1) (hc1 : l1.length ≤ c1) (h : moraineref07_Read.f k a0 l1 = some (r1, r2)) :
    Calls Tryd.prog 25 #[.int .i64 a0, .slice A1 l1.length c1] w fun e w' => ∃ v0_ : Value, e = .returned (.tuple #[v0_, .int .i64 r2]) ∧ Kd.S k60 60 w' w.heap.size (fun _ => True) v0_ r1 ∧ Below w.heap.size w w' := by
  have hu60 := Tryd.underlying60
  have HR1 := Aside0.mk hr1
  have HC1 := Aside0.mk hc1
  clear hr1 hc1
  have HB := Aside0.mk (Below.refl w.heap.size w)
  have H : (moraineref07_Read.l0 k a0 l1 ([] : List (S60)) ([] : List Int) false 0) = some (r1, r2) := h
  clear h
  have H' := Aside0.mk H
  clear H
  go_enter Tryd.func25, Tryd.ntmps25
  go_wp2
  repeat (go_quiet (fail); try go_wp2)
  go_loopg [6, 7, 8, 9] k (fun kq v6 v7 v8 v9 w' => ∃ (x6_1 : List (S60)) (x7_1 : List Int) (x8_1 : Bool) (x9_1 : Int), v8 = .bool x8_1 ∧ v9 = .int .i64 x9_1 ∧ Aside0 (moraineref07_Read.l0 kq a0 l1 x6_1 x7_1 x8_1 x9_1 = some (r1, r2)) ∧ Aside0 (kq ≤ k) ∧ Aside0 (Kd.S k60 60 w' w.heap.size (fun k_ => some k_ ≠ (v7 : Value).ownBlock) v6 x6_1) ∧ Aside0 (Kd.R (Kd.int .u8) 5 w' w.heap.size (fun _ => True) v7 x7_1) ∧ Aside0 (Below w.heap.size w w'))
  case atStart => exact ⟨(([] : List (S60))), (([] : List Int)), (false), (0), (by first | rfl | (simp; done) | (simp [*]; done)), (by first | rfl | (simp; done) | (simp [*]; done)), H', ⟨Nat.le_refl _⟩, ⟨by first | exact Kd.S_nil _ _ _ _ _ | exact Kd.N_nil _ _ _ _ _ | exact Kd.V_nil _ _ _ _ _ | exact Kd.Q_nil _ _ _ _ _ | exact Kd.R_nil _ _ _ _ _⟩, ⟨by first | exact Kd.R_nil _ _ _ _ _ | exact Kd.N_nil _ _ _ _ _ | exact Kd.V_nil _ _ _ _ _ | exact Kd.Q_nil _ _ _ _ _ | exact Kd.S_nil _ _ _ _ _⟩, ⟨by repeat (first | (with_reducible first | exact HB.out | apply below_alloc | apply pw_below_drewN | apply below_drew1) | exact HB.out)⟩⟩
  case round =>
    clear H'
    try clear c1
    try clear c2
    try clear p2
    obtain ⟨x6_1, x7_1, x8_1, x9_1, rfl, rfl, HA, HK1, HO_6, HO_7, HB⟩ := hrel
    cases gk with
    | zero => exact absurd HA.out (by simp [moraineref07_Read.l0])
    | succ k1 =>
      have H := HA.out
      clear HA
      simp only [moraineref07_Read.l0] at H
      by_cases c3 : x9_1 ≥ (l1.length : Int)
      · rw [if_pos c3] at H
        have c3b0 : decide ((l1.length : Int) ≤ x9_1) = true := decide_eq_true c3
        clear c3
        by_cases c4 : x8_1 = true
        · subst c4
          have H1 : (some (x6_1, 1)) = some (r1, r2) := by rw [if_pos rfl] at H; exact H
          clear H
          have H := H1
          clear H1
          simp only [Option.some.injEq, Prod.mk.injEq] at H
          obtain ⟨rfl, rfl⟩ := H
          go_wp2
          repeat (go_quiet (fail); try go_wp2)
          go_ret2
          exact ⟨_, by first | rfl | (simp [errW_none, errW_some] <;> rfl) | (simp [*, errW_none, errW_some] <;> rfl), by (with_reducible repeat (first | apply Kd.S_alloc | apply Kd.S_drewN | apply Kd.S_drew)); exact Kd.S_mono HO_6.out (fun _ hk => trivial), by repeat (first | (with_reducible first | exact HB.out | apply below_alloc | apply pw_below_drewN | apply below_drew1) | exact HB.out)⟩
        · replace c4 := Bool.eq_false_iff.mpr c4
          subst c4
          have H1 : (some (x6_1, 0)) = some (r1, r2) := by rw [if_neg (show ¬ (false = true) by decide)] at H; exact H
          clear H
          have H := H1
          clear H1
          simp only [Option.some.injEq, Prod.mk.injEq] at H
          obtain ⟨rfl, rfl⟩ := H
          go_wp2
          repeat (go_quiet (fail); try go_wp2)
          go_ret2
          exact ⟨_, by first | rfl | (simp [errW_none, errW_some] <;> rfl) | (simp [*, errW_none, errW_some] <;> rfl), by (with_reducible repeat (first | apply Kd.S_alloc | apply Kd.S_drewN | apply Kd.S_drew)); exact Kd.S_mono HO_6.out (fun _ hk => trivial), by repeat (first | (with_reducible first | exact HB.out | apply below_alloc | apply pw_below_drewN | apply below_drew1) | exact HB.out)⟩
      · rw [if_neg c3] at H
        have c3b0 : decide ((l1.length : Int) ≤ x9_1) = false := decide_eq_false c3
        clear c3
        by_cases c5 : a0 = 0
        · rw [if_pos c5] at H
          exact absurd H (by simp)
        · rw [if_neg c5] at H
          have c5b0 : (a0 == 0) = false := beq_eq_false_iff_ne.mpr c5
          have c5b1 : (a0 != 0) = true := bne_iff_ne.mpr c5
          by_cases c6 : (wrap64 (a0 - (Int.tmod x9_1 a0))) < 7
          · rw [if_pos c6] at H
            have c6b0 : decide ((wrap64 (a0 - (Int.tmod x9_1 a0))) < 7) = true := decide_eq_true c6
            clear c6
            by_cases c7 : (wrap64 (x9_1 + (wrap64 (a0 - (Int.tmod x9_1 a0))))) > (l1.length : Int)
            · rw [if_pos c7] at H
              have c7b0 : decide ((l1.length : Int) < (wrap64 (x9_1 + (wrap64 (a0 - (Int.tmod x9_1 a0)))))) = true := decide_eq_true c7
              clear c7
              by_cases c8 : 0 ≤ x9_1
              · rw [if_pos c8] at H
                have c8b0 := eq_true c8
                have c8b1 : decide (0 ≤ x9_1) = true := decide_eq_true c8
                clear c8
                by_cases c9 : x9_1 ≤ (l1.length : Int)
                · rw [if_pos c9] at H
                  have c9b0 := eq_true c9
                  have c9b1 : decide (x9_1 ≤ (l1.length : Int)) = true := decide_eq_true c9
                  clear c9
                  by_cases c10 : (l1.length : Int) ≤ (l1.length : Int)
                  · rw [if_pos c10] at H
                    have c10b0 := eq_true c10
                    have c10b1 : decide ((l1.length : Int) ≤ (l1.length : Int)) = true := decide_eq_true c10
                    clear c10
                    replace H := Option.bind_eq_some_iff.mp H
                    obtain ⟨t258, A110, H⟩ := H
                    replace H : (if t258 = true then (moraineref07_Read.l0 k1 a0 l1 x6_1 x7_1 x8_1 (l1.length : Int)) else (some (x6_1, 2))) = some (r1, r2) := H
                    have A11 := Aside0.mk A110
                    clear A110
                    by_cases c12 : t258 = true
                    · subst c12
                      have H1 : (moraineref07_Read.l0 k1 a0 l1 x6_1 x7_1 x8_1 (l1.length : Int)) = some (r1, r2) := by rw [if_pos rfl] at H; exact H
                      clear H
                      have H := H1
                      clear H1
                      have H' := Aside0.mk H
                      clear H
                      obtain ⟨i013, hi013, _, hsz13, _⟩ := info_parts info5
                      obtain ⟨A13, hcut13, hA13, hC13⟩ := print_mid_of (P := Tryd.prog) (Value.int .u8) 0 22 5 .i64 .i64 Tryd.underlying22 hi013 hsz13 A1 c1 l1 x9_1 (l1.length : Int) (of_decide_eq_true (by first | (with_reducible assumption) | assumption)) (by first | omega | exact of_decide_eq_true (by first | (with_reducible assumption) | assumption)) (of_decide_eq_true (by first | (with_reducible assumption) | assumption)) HC1.out
                      have HR257 := Aside0.mk (Kd.C_of_reads (h1 := fun _ => rfl) (hA13 _ (Kd.reads_of_C HR1.out)))
                      have HC257 := Aside0.mk hC13
                      clear hA13 hC13 hi013 hsz13
                      generalize ((l1.take ((l1.length : Int) : Int).toNat).drop (x9_1 : Int).toNat) = L_ at hcut13 HR257 HC257 A11
                      go_wp2_with (first | (go_at_call 37; (with_reducible refine (moraineref07_noughts.calls k1 _ _ _ true _ ?side1 ?side2 A11.out).mono ?_); (case side1 => repeat (first | exact (Kd.C_below HR257.out HB.out) | (with_reducible refine Kd.C_alloc ?_ _) | (with_reducible refine Kd.C_drewN ?_ _) | (with_reducible refine Kd.C_drew ?_))); (case side2 => exact HC257.out); rintro e w' ⟨rfl, ⟨nd, rfl⟩⟩; (try first | exact ⟨rfl, _, World.drewN_drewN _ _ _⟩ | exact ⟨rfl, _, Eq.trans (World.drewN_drewN _ _ _) (congrArg (World.drewN _) (Nat.add_assoc _ _ _))⟩)))
                      repeat (go_quiet (first | (go_at_call 37; (with_reducible refine (moraineref07_noughts.calls k1 _ _ _ true _ ?side1 ?side2 A11.out).mono ?_); (case side1 => repeat (first | exact (Kd.C_below HR257.out HB.out) | (with_reducible refine Kd.C_alloc ?_ _) | (with_reducible refine Kd.C_drewN ?_ _) | (with_reducible refine Kd.C_drew ?_))); (case side2 => exact HC257.out); rintro e w' ⟨rfl, ⟨nd, rfl⟩⟩; (try first | exact ⟨rfl, _, World.drewN_drewN _ _ _⟩ | exact ⟨rfl, _, Eq.trans (World.drewN_drewN _ _ _) (congrArg (World.drewN _) (Nat.add_assoc _ _ _))⟩))); try go_wp2_with (first | (go_at_call 37; (with_reducible refine (moraineref07_noughts.calls k1 _ _ _ true _ ?side1 ?side2 A11.out).mono ?_); (case side1 => repeat (first | exact (Kd.C_below HR257.out HB.out) | (with_reducible refine Kd.C_alloc ?_ _) | (with_reducible refine Kd.C_drewN ?_ _) | (with_reducible refine Kd.C_drew ?_))); (case side2 => exact HC257.out); rintro e w' ⟨rfl, ⟨nd, rfl⟩⟩; (try first | exact ⟨rfl, _, World.drewN_drewN _ _ _⟩ | exact ⟨rfl, _, Eq.trans (World.drewN_drewN _ _ _) (congrArg (World.drewN _) (Nat.add_assoc _ _ _))⟩))))
                      go_roundg k1
                      case measure => have := HK1.out; omega
                      case rel => exact ⟨(x6_1), (x7_1), (x8_1), ((l1.length : Int)), (by first | rfl | (simp; done) | (simp [*]; done)), (by first | rfl | (simp; done) | (simp [*]; done)), H', ⟨by have := HK1.out; omega⟩, ⟨by (with_reducible repeat (first | apply Kd.S_alloc | apply Kd.S_drewN | apply Kd.S_drew)); exact HO_6.out⟩, ⟨by (with_reducible repeat (first | apply Kd.R_alloc | apply Kd.R_drewN | apply Kd.R_drew)); exact HO_7.out⟩, ⟨by repeat (first | (with_reducible first | exact HB.out | apply below_alloc | apply pw_below_drewN | apply below_drew1) | exact HB.out)⟩⟩
                    · replace c12 := Bool.eq_false_iff.mpr c12
                      subst c12
                      have H1 : (some (x6_1, 2)) = some (r1, r2) := by rw [if_neg (show ¬ (false = true) by decide)] at H; exact H
                      clear H
                      have H := H1
                      clear H1
                      simp only [Option.some.injEq, Prod.mk.injEq] at H
                      obtain ⟨rfl, rfl⟩ := H
                      obtain ⟨i014, hi014, _, hsz14, _⟩ := info_parts info5
                      obtain ⟨A14, hcut14, hA14, hC14⟩ := print_mid_of (P := Tryd.prog) (Value.int .u8) 0 22 5 .i64 .i64 Tryd.underlying22 hi014 hsz14 A1 c1 l1 x9_1 (l1.length : Int) (of_decide_eq_true (by first | (with_reducible assumption) | assumption)) (by first | omega | exact of_decide_eq_true (by first | (with_reducible assumption) | assumption)) (of_decide_eq_true (by first | (with_reducible assumption) | assumption)) HC1.out
                      have HR257 := Aside0.mk (Kd.C_of_reads (h1 := fun _ => rfl) (hA14 _ (Kd.reads_of_C HR1.out)))
                      have HC257 := Aside0.mk hC14
                      clear hA14 hC14 hi014 hsz14
                      generalize ((l1.take ((l1.length : Int) : Int).toNat).drop (x9_1 : Int).toNat) = L_ at hcut14 HR257 HC257 A11
                      go_wp2_with (first | (go_at_call 37; (with_reducible refine (moraineref07_noughts.calls k1 _ _ _ false _ ?side1 ?side2 A11.out).mono ?_); (case side1 => repeat (first | exact (Kd.C_below HR257.out HB.out) | (with_reducible refine Kd.C_alloc ?_ _) | (with_reducible refine Kd.C_drewN ?_ _) | (with_reducible refine Kd.C_drew ?_))); (case side2 => exact HC257.out); rintro e w' ⟨rfl, ⟨nd, rfl⟩⟩; (try first | exact ⟨rfl, _, World.drewN_drewN _ _ _⟩ | exact ⟨rfl, _, Eq.trans (World.drewN_drewN _ _ _) (congrArg (World.drewN _) (Nat.add_assoc _ _ _))⟩)))
                      repeat (go_quiet (first | (go_at_call 37; (with_reducible refine (moraineref07_noughts.calls k1 _ _ _ false _ ?side1 ?side2 A11.out).mono ?_); (case side1 => repeat (first | exact (Kd.C_below HR257.out HB.out) | (with_reducible refine Kd.C_alloc ?_ _) | (with_reducible refine Kd.C_drewN ?_ _) | (with_reducible refine Kd.C_drew ?_))); (case side2 => exact HC257.out); rintro e w' ⟨rfl, ⟨nd, rfl⟩⟩; (try first | exact ⟨rfl, _, World.drewN_drewN _ _ _⟩ | exact ⟨rfl, _, Eq.trans (World.drewN_drewN _ _ _) (congrArg (World.drewN _) (Nat.add_assoc _ _ _))⟩))); try go_wp2_with (first | (go_at_call 37; (with_reducible refine (moraineref07_noughts.calls k1 _ _ _ false _ ?side1 ?side2 A11.out).mono ?_); (case side1 => repeat (first | exact (Kd.C_below HR257.out HB.out) | (with_reducible refine Kd.C_alloc ?_ _) | (with_reducible refine Kd.C_drewN ?_ _) | (with_reducible refine Kd.C_drew ?_))); (case side2 => exact HC257.out); rintro e w' ⟨rfl, ⟨nd, rfl⟩⟩; (try first | exact ⟨rfl, _, World.drewN_drewN _ _ _⟩ | exact ⟨rfl, _, Eq.trans (World.drewN_drewN _ _ _) (congrArg (World.drewN _) (Nat.add_assoc _ _ _))⟩))))
                      go_ret2
                      exact ⟨_, by first | rfl | (simp [errW_none, errW_some] <;> rfl) | (simp [*, errW_none, errW_some] <;> rfl), by (with_reducible repeat (first | apply Kd.S_alloc | apply Kd.S_drewN | apply Kd.S_drew)); exact Kd.S_mono HO_6.out (fun _ hk => trivial), by repeat (first | (with_reducible first | exact HB.out | apply below_alloc | apply pw_below_drewN | apply below_drew1) | exact HB.out)⟩
                  · rw [if_neg c10] at H
                    exact absurd H (by simp)
                · rw [if_neg c9] at H
                  exact absurd H (by simp)
              · rw [if_neg c8] at H
                exact absurd H (by simp)
            · rw [if_neg c7] at H
              have c7b0 : decide ((l1.length : Int) < (wrap64 (x9_1 + (wrap64 (a0 - (Int.tmod x9_1 a0)))))) = false := decide_eq_false c7
              clear c7
              by_cases c15 : 0 ≤ x9_1
              · rw [if_pos c15] at H
                have c15b0 := eq_true c15
                have c15b1 : decide (0 ≤ x9_1) = true := decide_eq_true c15
                clear c15
                by_cases c16 : x9_1 ≤ (wrap64 (x9_1 + (wrap64 (a0 - (Int.tmod x9_1 a0)))))
                · rw [if_pos c16] at H
                  have c16b0 := eq_true c16
                  have c16b1 : decide (x9_1 ≤ (wrap64 (x9_1 + (wrap64 (a0 - (Int.tmod x9_1 a0)))))) = true := decide_eq_true c16
                  by_cases c17 : (wrap64 (x9_1 + (wrap64 (a0 - (Int.tmod x9_1 a0))))) ≤ (l1.length : Int)
                  · rw [if_pos c17] at H
                    have c17b0 := eq_true c17
                    have c17b1 : decide ((wrap64 (x9_1 + (wrap64 (a0 - (Int.tmod x9_1 a0))))) ≤ (l1.length : Int)) = true := decide_eq_true c17
                    replace H := Option.bind_eq_some_iff.mp H
                    obtain ⟨t260, A180, H⟩ := H
                    replace H : (if t260 = true then (moraineref07_Read.l0 k1 a0 l1 x6_1 x7_1 x8_1 (wrap64 (x9_1 + (wrap64 (a0 - (Int.tmod x9_1 a0)))))) else (some (x6_1, 2))) = some (r1, r2) := H
                    have A18 := Aside0.mk A180
                    clear A180
                    by_cases c19 : t260 = true
                    · subst c19
                      have H1 : (moraineref07_Read.l0 k1 a0 l1 x6_1 x7_1 x8_1 (wrap64 (x9_1 + (wrap64 (a0 - (Int.tmod x9_1 a0)))))) = some (r1, r2) := by rw [if_pos rfl] at H; exact H
                      clear H
                      have H := H1
                      clear H1
                      have H' := Aside0.mk H
                      clear H
                      obtain ⟨i020, hi020, _, hsz20, _⟩ := info_parts info5
                      obtain ⟨A20, hcut20, hA20, hC20⟩ := print_mid_of (P := Tryd.prog) (Value.int .u8) 0 22 5 .i64 .i64 Tryd.underlying22 hi020 hsz20 A1 c1 l1 x9_1 (wrap64 (x9_1 + (wrap64 (a0 - (Int.tmod x9_1 a0))))) (of_decide_eq_true (by first | (with_reducible assumption) | assumption)) (by first | omega | exact of_decide_eq_true (by first | (with_reducible assumption) | assumption)) (of_decide_eq_true (by first | (with_reducible assumption) | assumption)) HC1.out
                      have HR259 := Aside0.mk (Kd.C_of_reads (h1 := fun _ => rfl) (hA20 _ (Kd.reads_of_C HR1.out)))
                      have HC259 := Aside0.mk hC20
                      clear hA20 hC20 hi020 hsz20
                      generalize ((l1.take ((wrap64 (x9_1 + (wrap64 (a0 - (Int.tmod x9_1 a0))))) : Int).toNat).drop (x9_1 : Int).toNat) = L_ at hcut20 HR259 HC259 A18
                      go_wp2_with (first | (go_at_call 37; (with_reducible refine (moraineref07_noughts.calls k1 _ _ _ true _ ?side1 ?side2 A18.out).mono ?_); (case side1 => repeat (first | exact (Kd.C_below HR259.out HB.out) | (with_reducible refine Kd.C_alloc ?_ _) | (with_reducible refine Kd.C_drewN ?_ _) | (with_reducible refine Kd.C_drew ?_))); (case side2 => exact HC259.out); rintro e w' ⟨rfl, ⟨nd, rfl⟩⟩; (try first | exact ⟨rfl, _, World.drewN_drewN _ _ _⟩ | exact ⟨rfl, _, Eq.trans (World.drewN_drewN _ _ _) (congrArg (World.drewN _) (Nat.add_assoc _ _ _))⟩)))
                      repeat (go_quiet (first | (go_at_call 37; (with_reducible refine (moraineref07_noughts.calls k1 _ _ _ true _ ?side1 ?side2 A18.out).mono ?_); (case side1 => repeat (first | exact (Kd.C_below HR259.out HB.out) | (with_reducible refine Kd.C_alloc ?_ _) | (with_reducible refine Kd.C_drewN ?_ _) | (with_reducible refine Kd.C_drew ?_))); (case side2 => exact HC259.out); rintro e w' ⟨rfl, ⟨nd, rfl⟩⟩; (try first | exact ⟨rfl, _, World.drewN_drewN _ _ _⟩ | exact ⟨rfl, _, Eq.trans (World.drewN_drewN _ _ _) (congrArg (World.drewN _) (Nat.add_assoc _ _ _))⟩))); try go_wp2_with (first | (go_at_call 37; (with_reducible refine (moraineref07_noughts.calls k1 _ _ _ true _ ?side1 ?side2 A18.out).mono ?_); (case side1 => repeat (first | exact (Kd.C_below HR259.out HB.out) | (with_reducible refine Kd.C_alloc ?_ _) | (with_reducible refine Kd.C_drewN ?_ _) | (with_reducible refine Kd.C_drew ?_))); (case side2 => exact HC259.out); rintro e w' ⟨rfl, ⟨nd, rfl⟩⟩; (try first | exact ⟨rfl, _, World.drewN_drewN _ _ _⟩ | exact ⟨rfl, _, Eq.trans (World.drewN_drewN _ _ _) (congrArg (World.drewN _) (Nat.add_assoc _ _ _))⟩))))
                      go_roundg k1
                      case measure => have := HK1.out; omega
                      case rel => exact ⟨(x6_1), (x7_1), (x8_1), (wrap64 (x9_1 + (wrap64 (a0 - (Int.tmod x9_1 a0))))), (by first | rfl | (simp; done) | (simp [*]; done)), (by first | rfl | (simp; done) | (simp [*]; done)), H', ⟨by have := HK1.out; omega⟩, ⟨by (with_reducible repeat (first | apply Kd.S_alloc | apply Kd.S_drewN | apply Kd.S_drew)); exact HO_6.out⟩, ⟨by (with_reducible repeat (first | apply Kd.R_alloc | apply Kd.R_drewN | apply Kd.R_drew)); exact HO_7.out⟩, ⟨by repeat (first | (with_reducible first | exact HB.out | apply below_alloc | apply pw_below_drewN | apply below_drew1) | exact HB.out)⟩⟩
                    · replace c19 := Bool.eq_false_iff.mpr c19
                      subst c19
                      have H1 : (some (x6_1, 2)) = some (r1, r2) := by rw [if_neg (show ¬ (false = true) by decide)] at H; exact H
                      clear H
                      have H := H1
                      clear H1
                      simp only [Option.some.injEq, Prod.mk.injEq] at H
                      obtain ⟨rfl, rfl⟩ := H
                      obtain ⟨i021, hi021, _, hsz21, _⟩ := info_parts info5
                      obtain ⟨A21, hcut21, hA21, hC21⟩ := print_mid_of (P := Tryd.prog) (Value.int .u8) 0 22 5 .i64 .i64 Tryd.underlying22 hi021 hsz21 A1 c1 l1 x9_1 (wrap64 (x9_1 + (wrap64 (a0 - (Int.tmod x9_1 a0))))) (of_decide_eq_true (by first | (with_reducible assumption) | assumption)) (by first | omega | exact of_decide_eq_true (by first | (with_reducible assumption) | assumption)) (of_decide_eq_true (by first | (with_reducible assumption) | assumption)) HC1.out
                      have HR259 := Aside0.mk (Kd.C_of_reads (h1 := fun _ => rfl) (hA21 _ (Kd.reads_of_C HR1.out)))
                      have HC259 := Aside0.mk hC21
                      clear hA21 hC21 hi021 hsz21
                      generalize ((l1.take ((wrap64 (x9_1 + (wrap64 (a0 - (Int.tmod x9_1 a0))))) : Int).toNat).drop (x9_1 : Int).toNat) = L_ at hcut21 HR259 HC259 A18
                      go_wp2_with (first | (go_at_call 37; (with_reducible refine (moraineref07_noughts.calls k1 _ _ _ false _ ?side1 ?side2 A18.out).mono ?_); (case side1 => repeat (first | exact (Kd.C_below HR259.out HB.out) | (with_reducible refine Kd.C_alloc ?_ _) | (with_reducible refine Kd.C_drewN ?_ _) | (with_reducible refine Kd.C_drew ?_))); (case side2 => exact HC259.out); rintro e w' ⟨rfl, ⟨nd, rfl⟩⟩; (try first | exact ⟨rfl, _, World.drewN_drewN _ _ _⟩ | exact ⟨rfl, _, Eq.trans (World.drewN_drewN _ _ _) (congrArg (World.drewN _) (Nat.add_assoc _ _ _))⟩)))
                      repeat (go_quiet (first | (go_at_call 37; (with_reducible refine (moraineref07_noughts.calls k1 _ _ _ false _ ?side1 ?side2 A18.out).mono ?_); (case side1 => repeat (first | exact (Kd.C_below HR259.out HB.out) | (with_reducible refine Kd.C_alloc ?_ _) | (with_reducible refine Kd.C_drewN ?_ _) | (with_reducible refine Kd.C_drew ?_))); (case side2 => exact HC259.out); rintro e w' ⟨rfl, ⟨nd, rfl⟩⟩; (try first | exact ⟨rfl, _, World.drewN_drewN _ _ _⟩ | exact ⟨rfl, _, Eq.trans (World.drewN_drewN _ _ _) (congrArg (World.drewN _) (Nat.add_assoc _ _ _))⟩))); try go_wp2_with (first | (go_at_call 37; (with_reducible refine (moraineref07_noughts.calls k1 _ _ _ false _ ?side1 ?side2 A18.out).mono ?_); (case side1 => repeat (first | exact (Kd.C_below HR259.out HB.out) | (with_reducible refine Kd.C_alloc ?_ _) | (with_reducible refine Kd.C_drewN ?_ _) | (with_reducible refine Kd.C_drew ?_))); (case side2 => exact HC259.out); rintro e w' ⟨rfl, ⟨nd, rfl⟩⟩; (try first | exact ⟨rfl, _, World.drewN_drewN _ _ _⟩ | exact ⟨rfl, _, Eq.trans (World.drewN_drewN _ _ _) (congrArg (World.drewN _) (Nat.add_assoc _ _ _))⟩))))
                      go_ret2
                      exact ⟨_, by first | rfl | (simp [errW_none, errW_some] <;> rfl) | (simp [*, errW_none, errW_some] <;> rfl), by (with_reducible repeat (first | apply Kd.S_alloc | apply Kd.S_drewN | apply Kd.S_drew)); exact Kd.S_mono HO_6.out (fun _ hk => trivial), by repeat (first | (with_reducible first | exact HB.out | apply below_alloc | apply pw_below_drewN | apply below_drew1) | exact HB.out)⟩
                  · rw [if_neg c17] at H
                    exact absurd H (by simp)
                · rw [if_neg c16] at H
                  exact absurd H (by simp)
              · rw [if_neg c15] at H
                exact absurd H (by simp)
          · rw [if_neg c6] at H
            have c6b0 : decide ((wrap64 (a0 - (Int.tmod x9_1 a0))) < 7) = false := decide_eq_false c6
            clear c6
            by_cases c22 : (wrap64 ((l1.length : Int) - x9_1)) < 7
            · rw [if_pos c22] at H
              have c22b0 : decide ((wrap64 ((l1.length : Int) - x9_1)) < 7) = true := decide_eq_true c22
              clear c22
              simp only [Option.some.injEq, Prod.mk.injEq] at H
              obtain ⟨rfl, rfl⟩ := H
              go_wp2
              repeat (go_quiet (fail); try go_wp2)
              go_ret2
              exact ⟨_, by first | rfl | (simp [errW_none, errW_some] <;> rfl) | (simp [*, errW_none, errW_some] <;> rfl), by (with_reducible repeat (first | apply Kd.S_alloc | apply Kd.S_drewN | apply Kd.S_drew)); exact Kd.S_mono HO_6.out (fun _ hk => trivial), by repeat (first | (with_reducible first | exact HB.out | apply below_alloc | apply pw_below_drewN | apply below_drew1) | exact HB.out)⟩
            · rw [if_neg c22] at H
              have c22b0 : decide ((wrap64 ((l1.length : Int) - x9_1)) < 7) = false := decide_eq_false c22
              clear c22
              replace H := Option.bind_eq_some_iff.mp H
              obtain ⟨⟨t261, t262, t263⟩, A230, H⟩ := H
              replace H : (if 0 ≤ (wrap64 (x9_1 + 4)) then (if (wrap64 (x9_1 + 4)) < (l1.length : Int) then (if 0 ≤ (wrap64 (x9_1 + 5)) then (if (wrap64 (x9_1 + 5)) < (l1.length : Int) then (if 0 ≤ (wrap64 (x9_1 + 6)) then (if (wrap64 (x9_1 + 6)) < (l1.length : Int) then (if (wrap64 (rd l1 (wrap64 (x9_1 + 6)))) < 1 then (moraineref07_Read.j1 k1 a0 l1 x6_1 x7_1 x8_1 x9_1 t261 (wrap64 ((wrap64 (rd l1 (wrap64 (x9_1 + 4)))) + (wrap64 ((wrap64 (rd l1 (wrap64 (x9_1 + 5)))) * 256)))) (wrap64 (rd l1 (wrap64 (x9_1 + 6)))) true) else (if (wrap64 (rd l1 (wrap64 (x9_1 + 6)))) > 4 then (moraineref07_Read.j1 k1 a0 l1 x6_1 x7_1 x8_1 x9_1 t261 (wrap64 ((wrap64 (rd l1 (wrap64 (x9_1 + 4)))) + (wrap64 ((wrap64 (rd l1 (wrap64 (x9_1 + 5)))) * 256)))) (wrap64 (rd l1 (wrap64 (x9_1 + 6)))) true) else (moraineref07_Read.j1 k1 a0 l1 x6_1 x7_1 x8_1 x9_1 t261 (wrap64 ((wrap64 (rd l1 (wrap64 (x9_1 + 4)))) + (wrap64 ((wrap64 (rd l1 (wrap64 (x9_1 + 5)))) * 256)))) (wrap64 (rd l1 (wrap64 (x9_1 + 6)))) (decide ((wrap64 ((wrap64 (rd l1 (wrap64 (x9_1 + 4)))) + (wrap64 ((wrap64 (rd l1 (wrap64 (x9_1 + 5)))) * 256)))) > (wrap64 ((wrap64 (a0 - (Int.tmod x9_1 a0))) - 7))))))) else (none)) else (none)) else (none)) else (none)) else (none)) else (none)) = some (r1, r2) := H
              have A23 := Aside0.mk A230
              clear A230
              obtain ⟨ji24, hji24⟩ : ∃ j_ : Int, (wrap64 (x9_1 + 4)) = j_ := ⟨_, rfl⟩
              replace H : (if 0 ≤ (ji24) then (if (ji24) < (l1.length : Int) then (if 0 ≤ (wrap64 (x9_1 + 5)) then (if (wrap64 (x9_1 + 5)) < (l1.length : Int) then (if 0 ≤ (wrap64 (x9_1 + 6)) then (if (wrap64 (x9_1 + 6)) < (l1.length : Int) then (if (wrap64 (rd l1 (wrap64 (x9_1 + 6)))) < 1 then (moraineref07_Read.j1 k1 a0 l1 x6_1 x7_1 x8_1 x9_1 t261 (wrap64 ((wrap64 (rd l1 (ji24))) + (wrap64 ((wrap64 (rd l1 (wrap64 (x9_1 + 5)))) * 256)))) (wrap64 (rd l1 (wrap64 (x9_1 + 6)))) true) else (if (wrap64 (rd l1 (wrap64 (x9_1 + 6)))) > 4 then (moraineref07_Read.j1 k1 a0 l1 x6_1 x7_1 x8_1 x9_1 t261 (wrap64 ((wrap64 (rd l1 (ji24))) + (wrap64 ((wrap64 (rd l1 (wrap64 (x9_1 + 5)))) * 256)))) (wrap64 (rd l1 (wrap64 (x9_1 + 6)))) true) else (moraineref07_Read.j1 k1 a0 l1 x6_1 x7_1 x8_1 x9_1 t261 (wrap64 ((wrap64 (rd l1 (ji24))) + (wrap64 ((wrap64 (rd l1 (wrap64 (x9_1 + 5)))) * 256)))) (wrap64 (rd l1 (wrap64 (x9_1 + 6)))) (decide ((wrap64 ((wrap64 (rd l1 (ji24))) + (wrap64 ((wrap64 (rd l1 (wrap64 (x9_1 + 5)))) * 256)))) > (wrap64 ((wrap64 (a0 - (Int.tmod x9_1 a0))) - 7))))))) else (none)) else (none)) else (none)) else (none)) else (none)) else (none)) = some (r1, r2) := by first | (rw [hji24] at H; exact H) | (simp only [hji24] at H ⊢; exact H)
              (try rw [hji24] at A23)
              have hji24w : (IntKind.i64.wrap (x9_1 + 4)) = ji24 := (i64_w _).trans hji24
              by_cases c25 : 0 ≤ (ji24)
              · rw [if_pos c25] at H
                have c25b0 : decide (0 ≤ (ji24)) = true := decide_eq_true c25
                clear c25
                by_cases c26 : (ji24) < (l1.length : Int)
                · rw [if_pos c26] at H
                  have c26b0 : decide ((ji24) < (l1.length : Int)) = true := decide_eq_true c26
                  clear c26
                  obtain ⟨ji27, hji27⟩ : ∃ j_ : Int, (wrap64 (x9_1 + 5)) = j_ := ⟨_, rfl⟩
                  replace H : (if 0 ≤ (ji27) then (if (ji27) < (l1.length : Int) then (if 0 ≤ (wrap64 (x9_1 + 6)) then (if (wrap64 (x9_1 + 6)) < (l1.length : Int) then (if (wrap64 (rd l1 (wrap64 (x9_1 + 6)))) < 1 then (moraineref07_Read.j1 k1 a0 l1 x6_1 x7_1 x8_1 x9_1 t261 (wrap64 ((wrap64 (rd l1 (ji24))) + (wrap64 ((wrap64 (rd l1 (ji27))) * 256)))) (wrap64 (rd l1 (wrap64 (x9_1 + 6)))) true) else (if (wrap64 (rd l1 (wrap64 (x9_1 + 6)))) > 4 then (moraineref07_Read.j1 k1 a0 l1 x6_1 x7_1 x8_1 x9_1 t261 (wrap64 ((wrap64 (rd l1 (ji24))) + (wrap64 ((wrap64 (rd l1 (ji27))) * 256)))) (wrap64 (rd l1 (wrap64 (x9_1 + 6)))) true) else (moraineref07_Read.j1 k1 a0 l1 x6_1 x7_1 x8_1 x9_1 t261 (wrap64 ((wrap64 (rd l1 (ji24))) + (wrap64 ((wrap64 (rd l1 (ji27))) * 256)))) (wrap64 (rd l1 (wrap64 (x9_1 + 6)))) (decide ((wrap64 ((wrap64 (rd l1 (ji24))) + (wrap64 ((wrap64 (rd l1 (ji27))) * 256)))) > (wrap64 ((wrap64 (a0 - (Int.tmod x9_1 a0))) - 7))))))) else (none)) else (none)) else (none)) else (none)) = some (r1, r2) := by first | (rw [hji27] at H; exact H) | (simp only [hji27] at H ⊢; exact H)
                  (try rw [hji27] at A23)
                  have hji27w : (IntKind.i64.wrap (x9_1 + 5)) = ji27 := (i64_w _).trans hji27
                  by_cases c28 : 0 ≤ (ji27)
                  · rw [if_pos c28] at H
                    have c28b0 : decide (0 ≤ (ji27)) = true := decide_eq_true c28
                    clear c28
                    by_cases c29 : (ji27) < (l1.length : Int)
                    · rw [if_pos c29] at H
                      have c29b0 : decide ((ji27) < (l1.length : Int)) = true := decide_eq_true c29
                      clear c29
                      obtain ⟨ji30, hji30⟩ : ∃ j_ : Int, (wrap64 (x9_1 + 6)) = j_ := ⟨_, rfl⟩
                      replace H : (if 0 ≤ (ji30) then (if (ji30) < (l1.length : Int) then (if (wrap64 (rd l1 (ji30))) < 1 then (moraineref07_Read.j1 k1 a0 l1 x6_1 x7_1 x8_1 x9_1 t261 (wrap64 ((wrap64 (rd l1 (ji24))) + (wrap64 ((wrap64 (rd l1 (ji27))) * 256)))) (wrap64 (rd l1 (ji30))) true) else (if (wrap64 (rd l1 (ji30))) > 4 then (moraineref07_Read.j1 k1 a0 l1 x6_1 x7_1 x8_1 x9_1 t261 (wrap64 ((wrap64 (rd l1 (ji24))) + (wrap64 ((wrap64 (rd l1 (ji27))) * 256)))) (wrap64 (rd l1 (ji30))) true) else (moraineref07_Read.j1 k1 a0 l1 x6_1 x7_1 x8_1 x9_1 t261 (wrap64 ((wrap64 (rd l1 (ji24))) + (wrap64 ((wrap64 (rd l1 (ji27))) * 256)))) (wrap64 (rd l1 (ji30))) (decide ((wrap64 ((wrap64 (rd l1 (ji24))) + (wrap64 ((wrap64 (rd l1 (ji27))) * 256)))) > (wrap64 ((wrap64 (a0 - (Int.tmod x9_1 a0))) - 7))))))) else (none)) else (none)) = some (r1, r2) := by first | (rw [hji30] at H; exact H) | (simp only [hji30] at H ⊢; exact H)
                      (try rw [hji30] at A23)
                      have hji30w : (IntKind.i64.wrap (x9_1 + 6)) = ji30 := (i64_w _).trans hji30
                      by_cases c31 : 0 ≤ (ji30)
                      · rw [if_pos c31] at H
                        have c31b0 : decide (0 ≤ (ji30)) = true := decide_eq_true c31
                        clear c31
                        by_cases c32 : (ji30) < (l1.length : Int)
                        · rw [if_pos c32] at H
                          have c32b0 : decide ((ji30) < (l1.length : Int)) = true := decide_eq_true c32
                          clear c32
                          have HC33 := Aside0.mk H
                          clear H
                          go_upto_region 22 with (first | (go_at_call 38; (with_reducible refine (moraineref01_ReadFixed.calls k1 _ _ l1 x9_1 4 t261 t262 t263 _ ?side1 ?side2 A23.out).mono ?_); (case side1 => repeat (first | exact (Kd.C_below HR1.out HB.out) | (with_reducible refine Kd.C_alloc ?_ _) | (with_reducible refine Kd.C_drewN ?_ _) | (with_reducible refine Kd.C_drew ?_))); (case side2 => exact HC1.out); rintro e w' ⟨rfl, ⟨nd, rfl⟩⟩; (try first | exact ⟨rfl, _, World.drewN_drewN _ _ _⟩ | exact ⟨rfl, _, Eq.trans (World.drewN_drewN _ _ _) (congrArg (World.drewN _) (Nat.add_assoc _ _ _))⟩); have p264 : 0 ≤ ((ji24) : Int) := of_decide_eq_true (by first | (with_reducible assumption) | assumption); have q264 : (ji24) < (l1.length : Int) := of_decide_eq_true (by first | (with_reducible assumption) | assumption); obtain ⟨ad264, e264, hx264_0⟩ := Kd.at_int HR1.out (ji24) p264 q264; cases e264; replace hx264_0 := (HB.out.cell (World.block_lt_of_cell? w _ hx264_0)).trans hx264_0; replace p264 := eq_true p264; replace q264 := eq_true q264; have p265 : 0 ≤ ((ji27) : Int) := of_decide_eq_true (by first | (with_reducible assumption) | assumption); have q265 : (ji27) < (l1.length : Int) := of_decide_eq_true (by first | (with_reducible assumption) | assumption); obtain ⟨ad265, e265, hx265_0⟩ := Kd.at_int HR1.out (ji27) p265 q265; obtain rfl : ad264 = ad265 := (by injection e265); replace hx265_0 := (HB.out.cell (World.block_lt_of_cell? w _ hx265_0)).trans hx265_0; replace p265 := eq_true p265; replace q265 := eq_true q265; have p266 : 0 ≤ ((ji30) : Int) := of_decide_eq_true (by first | (with_reducible assumption) | assumption); have q266 : (ji30) < (l1.length : Int) := of_decide_eq_true (by first | (with_reducible assumption) | assumption); obtain ⟨ad266, e266, hx266_0⟩ := Kd.at_int HR1.out (ji30) p266 q266; obtain rfl : ad264 = ad266 := (by injection e266); replace hx266_0 := (HB.out.cell (World.block_lt_of_cell? w _ hx266_0)).trans hx266_0; replace p266 := eq_true p266; replace q266 := eq_true q266))
                          repeat (go_quiet (first | (go_at_call 38; (with_reducible refine (moraineref01_ReadFixed.calls k1 _ _ l1 x9_1 4 t261 t262 t263 _ ?side1 ?side2 A23.out).mono ?_); (case side1 => repeat (first | exact (Kd.C_below HR1.out HB.out) | (with_reducible refine Kd.C_alloc ?_ _) | (with_reducible refine Kd.C_drewN ?_ _) | (with_reducible refine Kd.C_drew ?_))); (case side2 => exact HC1.out); rintro e w' ⟨rfl, ⟨nd, rfl⟩⟩; (try first | exact ⟨rfl, _, World.drewN_drewN _ _ _⟩ | exact ⟨rfl, _, Eq.trans (World.drewN_drewN _ _ _) (congrArg (World.drewN _) (Nat.add_assoc _ _ _))⟩); have p264 : 0 ≤ ((ji24) : Int) := of_decide_eq_true (by first | (with_reducible assumption) | assumption); have q264 : (ji24) < (l1.length : Int) := of_decide_eq_true (by first | (with_reducible assumption) | assumption); obtain ⟨ad264, e264, hx264_0⟩ := Kd.at_int HR1.out (ji24) p264 q264; cases e264; replace hx264_0 := (HB.out.cell (World.block_lt_of_cell? w _ hx264_0)).trans hx264_0; replace p264 := eq_true p264; replace q264 := eq_true q264; have p265 : 0 ≤ ((ji27) : Int) := of_decide_eq_true (by first | (with_reducible assumption) | assumption); have q265 : (ji27) < (l1.length : Int) := of_decide_eq_true (by first | (with_reducible assumption) | assumption); obtain ⟨ad265, e265, hx265_0⟩ := Kd.at_int HR1.out (ji27) p265 q265; obtain rfl : ad264 = ad265 := (by injection e265); replace hx265_0 := (HB.out.cell (World.block_lt_of_cell? w _ hx265_0)).trans hx265_0; replace p265 := eq_true p265; replace q265 := eq_true q265; have p266 : 0 ≤ ((ji30) : Int) := of_decide_eq_true (by first | (with_reducible assumption) | assumption); have q266 : (ji30) < (l1.length : Int) := of_decide_eq_true (by first | (with_reducible assumption) | assumption); obtain ⟨ad266, e266, hx266_0⟩ := Kd.at_int HR1.out (ji30) p266 q266; obtain rfl : ad264 = ad266 := (by injection e266); replace hx266_0 := (HB.out.cell (World.block_lt_of_cell? w _ hx266_0)).trans hx266_0; replace p266 := eq_true p266; replace q266 := eq_true q266)); go_upto_region 22 with (first | (go_at_call 38; (with_reducible refine (moraineref01_ReadFixed.calls k1 _ _ l1 x9_1 4 t261 t262 t263 _ ?side1 ?side2 A23.out).mono ?_); (case side1 => repeat (first | exact (Kd.C_below HR1.out HB.out) | (with_reducible refine Kd.C_alloc ?_ _) | (with_reducible refine Kd.C_drewN ?_ _) | (with_reducible refine Kd.C_drew ?_))); (case side2 => exact HC1.out); rintro e w' ⟨rfl, ⟨nd, rfl⟩⟩; (try first | exact ⟨rfl, _, World.drewN_drewN _ _ _⟩ | exact ⟨rfl, _, Eq.trans (World.drewN_drewN _ _ _) (congrArg (World.drewN _) (Nat.add_assoc _ _ _))⟩); have p264 : 0 ≤ ((ji24) : Int) := of_decide_eq_true (by first | (with_reducible assumption) | assumption); have q264 : (ji24) < (l1.length : Int) := of_decide_eq_true (by first | (with_reducible assumption) | assumption); obtain ⟨ad264, e264, hx264_0⟩ := Kd.at_int HR1.out (ji24) p264 q264; cases e264; replace hx264_0 := (HB.out.cell (World.block_lt_of_cell? w _ hx264_0)).trans hx264_0; replace p264 := eq_true p264; replace q264 := eq_true q264; have p265 : 0 ≤ ((ji27) : Int) := of_decide_eq_true (by first | (with_reducible assumption) | assumption); have q265 : (ji27) < (l1.length : Int) := of_decide_eq_true (by first | (with_reducible assumption) | assumption); obtain ⟨ad265, e265, hx265_0⟩ := Kd.at_int HR1.out (ji27) p265 q265; obtain rfl : ad264 = ad265 := (by injection e265); replace hx265_0 := (HB.out.cell (World.block_lt_of_cell? w _ hx265_0)).trans hx265_0; replace p265 := eq_true p265; replace q265 := eq_true q265; have p266 : 0 ≤ ((ji30) : Int) := of_decide_eq_true (by first | (with_reducible assumption) | assumption); have q266 : (ji30) < (l1.length : Int) := of_decide_eq_true (by first | (with_reducible assumption) | assumption); obtain ⟨ad266, e266, hx266_0⟩ := Kd.at_int HR1.out (ji30) p266 q266; obtain rfl : ad264 = ad266 := (by injection e266); replace hx266_0 := (HB.out.cell (World.block_lt_of_cell? w _ hx266_0)).trans hx266_0; replace p266 := eq_true p266; replace q266 := eq_true q266)))
                          (try simp only [Act.put, List.setIfInBounds_toArray, List.set_cons_zero, List.set_cons_succ])
                          go_cut [93] (fun v93 wc => ∃ (kq : Nat) (x93_32 : Bool), v93 = .bool x93_32 ∧ Aside0 (moraineref07_Read.j1 kq a0 l1 x6_1 x7_1 x8_1 x9_1 t261 (wrap64 ((wrap64 (rd l1 (ji24))) + (wrap64 ((wrap64 (rd l1 (ji27))) * 256)))) (wrap64 (rd l1 (ji30))) x93_32 = some (r1, r2)) ∧ Aside0 (kq ≤ k1) ∧ Aside0 (Kd.S k60 60 wc w.heap.size (fun k_ => some k_ ≠ (u7 : Value).ownBlock) u6 x6_1) ∧ Aside0 (Kd.R (Kd.int .u8) 5 wc w.heap.size (fun _ => True) u7 x7_1) ∧ Aside0 (Below w.heap.size w wc))
                          case first =>
                            have H := HC33.out
                            clear HC33
                            by_cases c34 : (wrap64 (rd l1 (ji30))) < 1
                            · rw [if_pos c34] at H
                              have c34b0 : decide ((wrap64 (rd l1 (ji30))) < 1) = true := decide_eq_true c34
                              clear c34
                              (first | rw [c34b0] | (simp only [i64_w, i32_w]; rw [c34b0]) | skip)
                              have H' := Aside0.mk H
                              clear H
                              go_wp2
                              repeat (go_quiet (fail); try go_wp2)
                              go_meet
                              case rel => exact ⟨_, (true), (by first | rfl | (simp; done) | (simp [*]; done)), H', ⟨by have := HK1.out; first | omega | exact Nat.le_refl _⟩, ⟨by (with_reducible repeat (first | apply Kd.S_alloc | apply Kd.S_drewN | apply Kd.S_drew)); exact HO_6.out⟩, ⟨by (with_reducible repeat (first | apply Kd.R_alloc | apply Kd.R_drewN | apply Kd.R_drew)); exact HO_7.out⟩, ⟨by repeat (first | (with_reducible first | exact HB.out | apply below_alloc | apply pw_below_drewN | apply below_drew1) | exact HB.out)⟩⟩
                            · rw [if_neg c34] at H
                              have c34b0 : decide ((wrap64 (rd l1 (ji30))) < 1) = false := decide_eq_false c34
                              clear c34
                              (first | rw [c34b0] | (simp only [i64_w, i32_w]; rw [c34b0]) | skip)
                              by_cases c35 : (wrap64 (rd l1 (ji30))) > 4
                              · rw [if_pos c35] at H
                                have c35b0 : decide (4 < (wrap64 (rd l1 (ji30)))) = true := decide_eq_true c35
                                clear c35
                                have H' := Aside0.mk H
                                clear H
                                go_wp2
                                repeat (go_quiet (fail); try go_wp2)
                                go_meet
                                case rel => exact ⟨_, (true), (by first | rfl | (simp; done) | (simp [*]; done)), H', ⟨by have := HK1.out; first | omega | exact Nat.le_refl _⟩, ⟨by (with_reducible repeat (first | apply Kd.S_alloc | apply Kd.S_drewN | apply Kd.S_drew)); exact HO_6.out⟩, ⟨by (with_reducible repeat (first | apply Kd.R_alloc | apply Kd.R_drewN | apply Kd.R_drew)); exact HO_7.out⟩, ⟨by repeat (first | (with_reducible first | exact HB.out | apply below_alloc | apply pw_below_drewN | apply below_drew1) | exact HB.out)⟩⟩
                              · rw [if_neg c35] at H
                                have c35b0 : decide (4 < (wrap64 (rd l1 (ji30)))) = false := decide_eq_false c35
                                clear c35
                                have H' := Aside0.mk H
                                clear H
                                go_wp2
                                repeat (go_quiet (fail); try go_wp2)
                                go_meet
                                case rel => exact ⟨_, (decide ((wrap64 ((wrap64 (rd l1 (ji24))) + (wrap64 ((wrap64 (rd l1 (ji27))) * 256)))) > (wrap64 ((wrap64 (a0 - (Int.tmod x9_1 a0))) - 7)))), (by first | rfl | (simp; done) | (simp only [← hji24, ← hji27] <;> (first | rfl | simp)) | (simp [*]; done)), H', ⟨by have := HK1.out; first | omega | exact Nat.le_refl _⟩, ⟨by (with_reducible repeat (first | apply Kd.S_alloc | apply Kd.S_drewN | apply Kd.S_drew)); exact HO_6.out⟩, ⟨by (with_reducible repeat (first | apply Kd.R_alloc | apply Kd.R_drewN | apply Kd.R_drew)); exact HO_7.out⟩, ⟨by repeat (first | (with_reducible first | exact HB.out | apply below_alloc | apply pw_below_drewN | apply below_drew1) | exact HB.out)⟩⟩
                          case rest =>
                            clear HC33
                            try clear c1
                            try clear c2
                            try clear p2
                            try clear q2
                            try clear hx2
                            try clear c3
                            try clear c3b0
                            try clear c4
                            try clear c5
                            try clear c5b0
                            try clear c5b1
                            try clear c6
                            try clear c6b0
                            try clear p6
                            try clear c7
                            try clear c7b0
                            try clear c8
                            try clear c8b0
                            try clear c8b1
                            try clear c9
                            try clear c9b0
                            try clear c9b1
                            try clear c10
                            try clear c10b0
                            try clear c10b1
                            try clear c12
                            try clear c15
                            try clear c15b0
                            try clear c15b1
                            try clear c16
                            try clear c16b0
                            try clear c16b1
                            try clear c17
                            try clear c17b0
                            try clear c17b1
                            try clear c19
                            try clear c22
                            try clear c22b0
                            try clear c25
                            try clear c25b0
                            try clear c26
                            try clear c26b0
                            try clear p26
                            try clear q26
                            try clear hx26
                            try clear c28
                            try clear c28b0
                            try clear c29
                            try clear c29b0
                            try clear c31
                            try clear c31b0
                            try clear c32
                            try clear c32b0
                            try clear c34
                            try clear c34b0
                            try clear c35
                            try clear c35b0
                            try clear hx264_0
                            try clear hx265_0
                            try clear hx266_0
                            try clear p2
                            try clear p264
                            try clear p265
                            try clear p266
                            try clear q264
                            try clear q265
                            try clear q266
                            obtain ⟨kq, x93_32, rfl, HA, HJ32, HO_6, HO_7, HB⟩ := hcut
                            cases kq with
                            | zero => exact absurd HA.out (by simp [moraineref07_Read.j1])
                            | succ kj32 =>
                              have H := HA.out
                              clear HA
                              simp only [moraineref07_Read.j1] at H
                              by_cases c36 : x93_32 = true
                              · subst c36
                                have H1 : (some (x6_1, 2)) = some (r1, r2) := by rw [if_pos rfl] at H; exact H
                                clear H
                                have H := H1
                                clear H1
                                simp only [Option.some.injEq, Prod.mk.injEq] at H
                                obtain ⟨rfl, rfl⟩ := H
                                go_wp2
                                repeat (go_quiet (fail); try go_wp2)
                                go_ret2
                                exact ⟨_, by first | rfl | (simp [errW_none, errW_some] <;> rfl) | (simp only [← hji24, ← hji27, ← hji30]; first | rfl | (simp [errW_none, errW_some] <;> rfl)) | (simp [*, errW_none, errW_some] <;> rfl), by (with_reducible repeat (first | apply Kd.S_alloc | apply Kd.S_drewN | apply Kd.S_drew)); exact Kd.S_mono HO_6.out (fun _ hk => trivial), by repeat (first | (with_reducible first | exact HB.out | apply below_alloc | apply pw_below_drewN | apply below_drew1) | exact HB.out)⟩
                              · replace c36 := Bool.eq_false_iff.mpr c36
                                subst c36
                                have H1 : (if (wrap64 ((wrap64 ((l1.length : Int) - x9_1)) - 7)) < (wrap64 ((wrap64 (rd l1 (ji24))) + (wrap64 ((wrap64 (rd l1 (ji27))) * 256)))) then (some (x6_1, 1)) else (if 0 ≤ (wrap64 (x9_1 + 6)) then (if (wrap64 (x9_1 + 6)) ≤ (wrap64 ((wrap64 (x9_1 + 7)) + (wrap64 ((wrap64 (rd l1 (ji24))) + (wrap64 ((wrap64 (rd l1 (ji27))) * 256)))))) then (if (wrap64 ((wrap64 (x9_1 + 7)) + (wrap64 ((wrap64 (rd l1 (ji24))) + (wrap64 ((wrap64 (rd l1 (ji27))) * 256)))))) ≤ (l1.length : Int) then ((moraineref02_Sum.f kj32 ((l1.take ((wrap64 ((wrap64 (x9_1 + 7)) + (wrap64 ((wrap64 (rd l1 (ji24))) + (wrap64 ((wrap64 (rd l1 (ji27))) * 256)))))) : Int).toNat).drop ((wrap64 (x9_1 + 6)) : Int).toNat)).bind fun t268 => ((moraineref02_Mask.f t268).bind fun t269 => (if ((t261) % 4294967296) = t269 then (if (wrap64 (rd l1 (ji30))) = 1 then (moraineref07_Read.j2 kj32 a0 l1 x6_1 x7_1 x9_1 (wrap64 ((wrap64 (rd l1 (ji24))) + (wrap64 ((wrap64 (rd l1 (ji27))) * 256)))) (wrap64 (rd l1 (ji30))) ((l1.take ((wrap64 ((wrap64 (x9_1 + 7)) + (wrap64 ((wrap64 (rd l1 (ji24))) + (wrap64 ((wrap64 (rd l1 (ji27))) * 256)))))) : Int).toNat).drop ((wrap64 (x9_1 + 6)) : Int).toNat) (true == x8_1)) else (moraineref07_Read.j2 kj32 a0 l1 x6_1 x7_1 x9_1 (wrap64 ((wrap64 (rd l1 (ji24))) + (wrap64 ((wrap64 (rd l1 (ji27))) * 256)))) (wrap64 (rd l1 (ji30))) ((l1.take ((wrap64 ((wrap64 (x9_1 + 7)) + (wrap64 ((wrap64 (rd l1 (ji24))) + (wrap64 ((wrap64 (rd l1 (ji27))) * 256)))))) : Int).toNat).drop ((wrap64 (x9_1 + 6)) : Int).toNat) (((wrap64 (rd l1 (ji30))) == 2) == x8_1))) else (moraineref07_Read.j2 kj32 a0 l1 x6_1 x7_1 x9_1 (wrap64 ((wrap64 (rd l1 (ji24))) + (wrap64 ((wrap64 (rd l1 (ji27))) * 256)))) (wrap64 (rd l1 (ji30))) ((l1.take ((wrap64 ((wrap64 (x9_1 + 7)) + (wrap64 ((wrap64 (rd l1 (ji24))) + (wrap64 ((wrap64 (rd l1 (ji27))) * 256)))))) : Int).toNat).drop ((wrap64 (x9_1 + 6)) : Int).toNat) true)))) else (none)) else (none)) else (none))) = some (r1, r2) := by rw [if_neg (show ¬ (false = true) by decide)] at H; exact H
                                clear H
                                have H := H1
                                clear H1
                                by_cases c37 : (wrap64 ((wrap64 ((l1.length : Int) - x9_1)) - 7)) < (wrap64 ((wrap64 (rd l1 (ji24))) + (wrap64 ((wrap64 (rd l1 (ji27))) * 256))))
                                · rw [if_pos c37] at H
                                  have c37b0 : decide ((wrap64 ((wrap64 ((l1.length : Int) - x9_1)) - 7)) < (wrap64 ((wrap64 (rd l1 (ji24))) + (wrap64 ((wrap64 (rd l1 (ji27))) * 256))))) = true := decide_eq_true c37
                                  clear c37
                                  simp only [Option.some.injEq, Prod.mk.injEq] at H
                                  obtain ⟨rfl, rfl⟩ := H
                                  go_wp2
                                  repeat (go_quiet (fail); try go_wp2)
                                  go_ret2
                                  exact ⟨_, by first | rfl | (simp [errW_none, errW_some] <;> rfl) | (simp only [← hji24, ← hji27, ← hji30]; first | rfl | (simp [errW_none, errW_some] <;> rfl)) | (simp [*, errW_none, errW_some] <;> rfl), by (with_reducible repeat (first | apply Kd.S_alloc | apply Kd.S_drewN | apply Kd.S_drew)); exact Kd.S_mono HO_6.out (fun _ hk => trivial), by repeat (first | (with_reducible first | exact HB.out | apply below_alloc | apply pw_below_drewN | apply below_drew1) | exact HB.out)⟩
                                · rw [if_neg c37] at H
                                  have c37b0 : decide ((wrap64 ((wrap64 ((l1.length : Int) - x9_1)) - 7)) < (wrap64 ((wrap64 (rd l1 (ji24))) + (wrap64 ((wrap64 (rd l1 (ji27))) * 256))))) = false := decide_eq_false c37
                                  clear c37
                                  obtain ⟨ji38, hji38⟩ : ∃ j_ : Int, (wrap64 (x9_1 + 6)) = j_ := ⟨_, rfl⟩
                                  obtain ⟨L43, hL43⟩ : ∃ L_ : List Int, ((l1.take ((wrap64 ((wrap64 (x9_1 + 7)) + (wrap64 ((wrap64 (rd l1 (ji24))) + (wrap64 ((wrap64 (rd l1 (ji27))) * 256)))))) : Int).toNat).drop ((ji38) : Int).toNat) = L_ := ⟨_, rfl⟩
                                  replace H : (if 0 ≤ (ji38) then (if (ji38) ≤ (wrap64 ((wrap64 (x9_1 + 7)) + (wrap64 ((wrap64 (rd l1 (ji24))) + (wrap64 ((wrap64 (rd l1 (ji27))) * 256)))))) then (if (wrap64 ((wrap64 (x9_1 + 7)) + (wrap64 ((wrap64 (rd l1 (ji24))) + (wrap64 ((wrap64 (rd l1 (ji27))) * 256)))))) ≤ (l1.length : Int) then ((moraineref02_Sum.f kj32 L43).bind fun t268 => ((moraineref02_Mask.f t268).bind fun t269 => (if ((t261) % 4294967296) = t269 then (if (wrap64 (rd l1 (ji30))) = 1 then (moraineref07_Read.j2 kj32 a0 l1 x6_1 x7_1 x9_1 (wrap64 ((wrap64 (rd l1 (ji24))) + (wrap64 ((wrap64 (rd l1 (ji27))) * 256)))) (wrap64 (rd l1 (ji30))) L43 (true == x8_1)) else (moraineref07_Read.j2 kj32 a0 l1 x6_1 x7_1 x9_1 (wrap64 ((wrap64 (rd l1 (ji24))) + (wrap64 ((wrap64 (rd l1 (ji27))) * 256)))) (wrap64 (rd l1 (ji30))) L43 (((wrap64 (rd l1 (ji30))) == 2) == x8_1))) else (moraineref07_Read.j2 kj32 a0 l1 x6_1 x7_1 x9_1 (wrap64 ((wrap64 (rd l1 (ji24))) + (wrap64 ((wrap64 (rd l1 (ji27))) * 256)))) (wrap64 (rd l1 (ji30))) L43 true)))) else (none)) else (none)) else (none)) = some (r1, r2) := by first | (rw [hji38, hL43] at H; exact H) | (simp only [hji38, hL43] at H ⊢; exact H)
                                  have hji38w : (IntKind.i64.wrap (x9_1 + 6)) = ji38 := (i64_w _).trans hji38
                                  clear hji30 hji30w
                                  by_cases c39 : 0 ≤ (ji38)
                                  · rw [if_pos c39] at H
                                    have c39b0 := eq_true c39
                                    have c39b1 : decide (0 ≤ (ji38)) = true := decide_eq_true c39
                                    clear c39
                                    by_cases c40 : (ji38) ≤ (wrap64 ((wrap64 (x9_1 + 7)) + (wrap64 ((wrap64 (rd l1 (ji24))) + (wrap64 ((wrap64 (rd l1 (ji27))) * 256))))))
                                    · rw [if_pos c40] at H
                                      have c40b0 := eq_true c40
                                      have c40b1 : decide ((ji38) ≤ (wrap64 ((wrap64 (x9_1 + 7)) + (wrap64 ((wrap64 (rd l1 (ji24))) + (wrap64 ((wrap64 (rd l1 (ji27))) * 256))))))) = true := decide_eq_true c40
                                      by_cases c41 : (wrap64 ((wrap64 (x9_1 + 7)) + (wrap64 ((wrap64 (rd l1 (ji24))) + (wrap64 ((wrap64 (rd l1 (ji27))) * 256)))))) ≤ (l1.length : Int)
                                      · rw [if_pos c41] at H
                                        have c41b0 := eq_true c41
                                        have c41b1 : decide ((wrap64 ((wrap64 (x9_1 + 7)) + (wrap64 ((wrap64 (rd l1 (ji24))) + (wrap64 ((wrap64 (rd l1 (ji27))) * 256)))))) ≤ (l1.length : Int)) = true := decide_eq_true c41
                                        have HC42 := Aside0.mk H
                                        clear H
                                        obtain ⟨i043, hi043, _, hsz43, _⟩ := info_parts info5
                                        obtain ⟨A43, hcut43, hA43, hC43⟩ := print_mid_of (P := Tryd.prog) (Value.int .u8) 0 22 5 .i64 .i64 Tryd.underlying22 hi043 hsz43 (some ad264) c1 l1 (ji38) (wrap64 ((wrap64 (x9_1 + 7)) + (wrap64 ((wrap64 (rd l1 (ji24))) + (wrap64 ((wrap64 (rd l1 (ji27))) * 256)))))) (of_decide_eq_true (by first | (with_reducible assumption) | assumption)) (by first | omega | exact of_decide_eq_true (by first | (with_reducible assumption) | assumption)) (of_decide_eq_true (by first | (with_reducible assumption) | assumption)) HC1.out
                                        have HR267 := Aside0.mk (Kd.C_of_reads (h1 := fun _ => rfl) (hA43 _ (Kd.reads_of_C HR1.out)))
                                        have HC267 := Aside0.mk hC43
                                        clear hA43 hC43 hi043 hsz43
                                        rw [hL43] at hcut43 HR267 HC267
                                        clear hL43
                                        go_upto_region 27 with (fail)
                                        repeat (go_quiet (fail); go_upto_region 27 with (fail))
                                        go_cut [126] (fun v126 wc => ∃ (kq : Nat) (x126_41 : Bool), v126 = .bool x126_41 ∧ Aside0 (moraineref07_Read.j2 kq a0 l1 x6_1 x7_1 x9_1 (wrap64 ((wrap64 (rd l1 (ji24))) + (wrap64 ((wrap64 (rd l1 (ji27))) * 256)))) (wrap64 (rd l1 (ji30))) L43 x126_41 = some (r1, r2)) ∧ Aside0 (kq ≤ kj32) ∧ Aside0 (Kd.S k60 60 wc w.heap.size (fun k_ => some k_ ≠ (u7 : Value).ownBlock) u6 x6_1) ∧ Aside0 (Kd.R (Kd.int .u8) 5 wc w.heap.size (fun _ => True) u7 x7_1) ∧ Aside0 (Below w.heap.size w wc))
                                        case first =>
                                          have H := HC42.out
                                          clear HC42
                                          replace H := Option.bind_eq_some_iff.mp H
                                          obtain ⟨t268, A440, H⟩ := H
                                          replace H : ((moraineref02_Mask.f t268).bind fun t269 => (if ((t261) % 4294967296) = t269 then (if (wrap64 (rd l1 (ji30))) = 1 then (moraineref07_Read.j2 kj32 a0 l1 x6_1 x7_1 x9_1 (wrap64 ((wrap64 (rd l1 (ji24))) + (wrap64 ((wrap64 (rd l1 (ji27))) * 256)))) (wrap64 (rd l1 (ji30))) L43 (true == x8_1)) else (moraineref07_Read.j2 kj32 a0 l1 x6_1 x7_1 x9_1 (wrap64 ((wrap64 (rd l1 (ji24))) + (wrap64 ((wrap64 (rd l1 (ji27))) * 256)))) (wrap64 (rd l1 (ji30))) L43 (((wrap64 (rd l1 (ji30))) == 2) == x8_1))) else (moraineref07_Read.j2 kj32 a0 l1 x6_1 x7_1 x9_1 (wrap64 ((wrap64 (rd l1 (ji24))) + (wrap64 ((wrap64 (rd l1 (ji27))) * 256)))) (wrap64 (rd l1 (ji30))) L43 true))) = some (r1, r2) := H
                                          have A44 := Aside0.mk A440
                                          clear A440
                                          replace H := Option.bind_eq_some_iff.mp H
                                          obtain ⟨t269, A450, H⟩ := H
                                          replace H : (if ((t261) % 4294967296) = t269 then (if (wrap64 (rd l1 (ji30))) = 1 then (moraineref07_Read.j2 kj32 a0 l1 x6_1 x7_1 x9_1 (wrap64 ((wrap64 (rd l1 (ji24))) + (wrap64 ((wrap64 (rd l1 (ji27))) * 256)))) (wrap64 (rd l1 (ji30))) L43 (true == x8_1)) else (moraineref07_Read.j2 kj32 a0 l1 x6_1 x7_1 x9_1 (wrap64 ((wrap64 (rd l1 (ji24))) + (wrap64 ((wrap64 (rd l1 (ji27))) * 256)))) (wrap64 (rd l1 (ji30))) L43 (((wrap64 (rd l1 (ji30))) == 2) == x8_1))) else (moraineref07_Read.j2 kj32 a0 l1 x6_1 x7_1 x9_1 (wrap64 ((wrap64 (rd l1 (ji24))) + (wrap64 ((wrap64 (rd l1 (ji27))) * 256)))) (wrap64 (rd l1 (ji30))) L43 true)) = some (r1, r2) := H
                                          have A45 := Aside0.mk A450
                                          clear A450
                                          by_cases c46 : ((t261) % 4294967296) = t269
                                          · rw [if_pos c46] at H
                                            have c46b0 : (((t261) % 4294967296) == t269) = true := beq_iff_eq.mpr c46
                                            have c46b1 : (((t261) % 4294967296) != t269) = false := bne_eq_false_iff_eq.mpr c46
                                            clear c46
                                            (first | rw [c46b0] | (simp only [i64_w, i32_w]; rw [c46b0]) | skip)
                                            by_cases c47 : (wrap64 (rd l1 (ji30))) = 1
                                            · rw [if_pos c47] at H
                                              have c47b0 : ((wrap64 (rd l1 (ji30))) == 1) = true := beq_iff_eq.mpr c47
                                              have c47b1 : ((wrap64 (rd l1 (ji30))) != 1) = false := bne_eq_false_iff_eq.mpr c47
                                              clear c47
                                              have H' := Aside0.mk H
                                              clear H
                                              go_wp2_with (first | (go_at_call 40; (with_reducible refine (moraineref02_Sum.calls kj32 _ _ L43 t268 _ ?side1 ?side2 A44.out).mono ?_); (case side1 => repeat (first | exact (Kd.C_below HR267.out HB.out) | (with_reducible refine Kd.C_alloc ?_ _) | (with_reducible refine Kd.C_drewN ?_ _) | (with_reducible refine Kd.C_drew ?_))); (case side2 => exact HC267.out); rintro e w' ⟨rfl, ⟨nd, rfl⟩⟩; (try first | exact ⟨rfl, _, World.drewN_drewN _ _ _⟩ | exact ⟨rfl, _, Eq.trans (World.drewN_drewN _ _ _) (congrArg (World.drewN _) (Nat.add_assoc _ _ _))⟩)) | (go_at_call 39; (with_reducible refine (moraineref02_Mask.calls t268 t269 _ A45.out).mono ?_); rintro e w' ⟨rfl, ⟨nd, rfl⟩⟩; (try first | exact ⟨rfl, _, World.drewN_drewN _ _ _⟩ | exact ⟨rfl, _, Eq.trans (World.drewN_drewN _ _ _) (congrArg (World.drewN _) (Nat.add_assoc _ _ _))⟩)))
                                              repeat (go_quiet (first | (go_at_call 40; (with_reducible refine (moraineref02_Sum.calls kj32 _ _ L43 t268 _ ?side1 ?side2 A44.out).mono ?_); (case side1 => repeat (first | exact (Kd.C_below HR267.out HB.out) | (with_reducible refine Kd.C_alloc ?_ _) | (with_reducible refine Kd.C_drewN ?_ _) | (with_reducible refine Kd.C_drew ?_))); (case side2 => exact HC267.out); rintro e w' ⟨rfl, ⟨nd, rfl⟩⟩; (try first | exact ⟨rfl, _, World.drewN_drewN _ _ _⟩ | exact ⟨rfl, _, Eq.trans (World.drewN_drewN _ _ _) (congrArg (World.drewN _) (Nat.add_assoc _ _ _))⟩)) | (go_at_call 39; (with_reducible refine (moraineref02_Mask.calls t268 t269 _ A45.out).mono ?_); rintro e w' ⟨rfl, ⟨nd, rfl⟩⟩; (try first | exact ⟨rfl, _, World.drewN_drewN _ _ _⟩ | exact ⟨rfl, _, Eq.trans (World.drewN_drewN _ _ _) (congrArg (World.drewN _) (Nat.add_assoc _ _ _))⟩))); try go_wp2_with (first | (go_at_call 40; (with_reducible refine (moraineref02_Sum.calls kj32 _ _ L43 t268 _ ?side1 ?side2 A44.out).mono ?_); (case side1 => repeat (first | exact (Kd.C_below HR267.out HB.out) | (with_reducible refine Kd.C_alloc ?_ _) | (with_reducible refine Kd.C_drewN ?_ _) | (with_reducible refine Kd.C_drew ?_))); (case side2 => exact HC267.out); rintro e w' ⟨rfl, ⟨nd, rfl⟩⟩; (try first | exact ⟨rfl, _, World.drewN_drewN _ _ _⟩ | exact ⟨rfl, _, Eq.trans (World.drewN_drewN _ _ _) (congrArg (World.drewN _) (Nat.add_assoc _ _ _))⟩)) | (go_at_call 39; (with_reducible refine (moraineref02_Mask.calls t268 t269 _ A45.out).mono ?_); rintro e w' ⟨rfl, ⟨nd, rfl⟩⟩; (try first | exact ⟨rfl, _, World.drewN_drewN _ _ _⟩ | exact ⟨rfl, _, Eq.trans (World.drewN_drewN _ _ _) (congrArg (World.drewN _) (Nat.add_assoc _ _ _))⟩))))
                                              go_meet
                                              case rel => exact ⟨_, ((true == x8_1)), (by first | rfl | (simp; done) | (simp [*]; done)), H', ⟨by have := HK1.out; have := HJ32.out; first | omega | exact Nat.le_refl _⟩, ⟨by (with_reducible repeat (first | apply Kd.S_alloc | apply Kd.S_drewN | apply Kd.S_drew)); exact HO_6.out⟩, ⟨by (with_reducible repeat (first | apply Kd.R_alloc | apply Kd.R_drewN | apply Kd.R_drew)); exact HO_7.out⟩, ⟨by repeat (first | (with_reducible first | exact HB.out | apply below_alloc | apply pw_below_drewN | apply below_drew1) | exact HB.out)⟩⟩
                                            · rw [if_neg c47] at H
                                              have c47b0 : ((wrap64 (rd l1 (ji30))) == 1) = false := beq_eq_false_iff_ne.mpr c47
                                              have c47b1 : ((wrap64 (rd l1 (ji30))) != 1) = true := bne_iff_ne.mpr c47
                                              have H' := Aside0.mk H
                                              clear H
                                              go_wp2_with (first | (go_at_call 40; (with_reducible refine (moraineref02_Sum.calls kj32 _ _ L43 t268 _ ?side1 ?side2 A44.out).mono ?_); (case side1 => repeat (first | exact (Kd.C_below HR267.out HB.out) | (with_reducible refine Kd.C_alloc ?_ _) | (with_reducible refine Kd.C_drewN ?_ _) | (with_reducible refine Kd.C_drew ?_))); (case side2 => exact HC267.out); rintro e w' ⟨rfl, ⟨nd, rfl⟩⟩; (try first | exact ⟨rfl, _, World.drewN_drewN _ _ _⟩ | exact ⟨rfl, _, Eq.trans (World.drewN_drewN _ _ _) (congrArg (World.drewN _) (Nat.add_assoc _ _ _))⟩)) | (go_at_call 39; (with_reducible refine (moraineref02_Mask.calls t268 t269 _ A45.out).mono ?_); rintro e w' ⟨rfl, ⟨nd, rfl⟩⟩; (try first | exact ⟨rfl, _, World.drewN_drewN _ _ _⟩ | exact ⟨rfl, _, Eq.trans (World.drewN_drewN _ _ _) (congrArg (World.drewN _) (Nat.add_assoc _ _ _))⟩)))
                                              repeat (go_quiet (first | (go_at_call 40; (with_reducible refine (moraineref02_Sum.calls kj32 _ _ L43 t268 _ ?side1 ?side2 A44.out).mono ?_); (case side1 => repeat (first | exact (Kd.C_below HR267.out HB.out) | (with_reducible refine Kd.C_alloc ?_ _) | (with_reducible refine Kd.C_drewN ?_ _) | (with_reducible refine Kd.C_drew ?_))); (case side2 => exact HC267.out); rintro e w' ⟨rfl, ⟨nd, rfl⟩⟩; (try first | exact ⟨rfl, _, World.drewN_drewN _ _ _⟩ | exact ⟨rfl, _, Eq.trans (World.drewN_drewN _ _ _) (congrArg (World.drewN _) (Nat.add_assoc _ _ _))⟩)) | (go_at_call 39; (with_reducible refine (moraineref02_Mask.calls t268 t269 _ A45.out).mono ?_); rintro e w' ⟨rfl, ⟨nd, rfl⟩⟩; (try first | exact ⟨rfl, _, World.drewN_drewN _ _ _⟩ | exact ⟨rfl, _, Eq.trans (World.drewN_drewN _ _ _) (congrArg (World.drewN _) (Nat.add_assoc _ _ _))⟩))); try go_wp2_with (first | (go_at_call 40; (with_reducible refine (moraineref02_Sum.calls kj32 _ _ L43 t268 _ ?side1 ?side2 A44.out).mono ?_); (case side1 => repeat (first | exact (Kd.C_below HR267.out HB.out) | (with_reducible refine Kd.C_alloc ?_ _) | (with_reducible refine Kd.C_drewN ?_ _) | (with_reducible refine Kd.C_drew ?_))); (case side2 => exact HC267.out); rintro e w' ⟨rfl, ⟨nd, rfl⟩⟩; (try first | exact ⟨rfl, _, World.drewN_drewN _ _ _⟩ | exact ⟨rfl, _, Eq.trans (World.drewN_drewN _ _ _) (congrArg (World.drewN _) (Nat.add_assoc _ _ _))⟩)) | (go_at_call 39; (with_reducible refine (moraineref02_Mask.calls t268 t269 _ A45.out).mono ?_); rintro e w' ⟨rfl, ⟨nd, rfl⟩⟩; (try first | exact ⟨rfl, _, World.drewN_drewN _ _ _⟩ | exact ⟨rfl, _, Eq.trans (World.drewN_drewN _ _ _) (congrArg (World.drewN _) (Nat.add_assoc _ _ _))⟩))))
                                              go_meet
                                              case rel => exact ⟨_, ((((wrap64 (rd l1 (ji30))) == 2) == x8_1)), (by first | rfl | (simp; done) | (simp only [← hji30] <;> (first | rfl | simp)) | (simp [*]; done)), H', ⟨by have := HK1.out; have := HJ32.out; first | omega | exact Nat.le_refl _⟩, ⟨by (with_reducible repeat (first | apply Kd.S_alloc | apply Kd.S_drewN | apply Kd.S_drew)); exact HO_6.out⟩, ⟨by (with_reducible repeat (first | apply Kd.R_alloc | apply Kd.R_drewN | apply Kd.R_drew)); exact HO_7.out⟩, ⟨by repeat (first | (with_reducible first | exact HB.out | apply below_alloc | apply pw_below_drewN | apply below_drew1) | exact HB.out)⟩⟩
                                          · rw [if_neg c46] at H
                                            have c46b0 : (((t261) % 4294967296) == t269) = false := beq_eq_false_iff_ne.mpr c46
                                            have c46b1 : (((t261) % 4294967296) != t269) = true := bne_iff_ne.mpr c46
                                            (first | rw [c46b0] | (simp only [i64_w, i32_w]; rw [c46b0]) | skip)
                                            have H' := Aside0.mk H
                                            clear H
                                            go_wp2_with (first | (go_at_call 40; (with_reducible refine (moraineref02_Sum.calls kj32 _ _ L43 t268 _ ?side1 ?side2 A44.out).mono ?_); (case side1 => repeat (first | exact (Kd.C_below HR267.out HB.out) | (with_reducible refine Kd.C_alloc ?_ _) | (with_reducible refine Kd.C_drewN ?_ _) | (with_reducible refine Kd.C_drew ?_))); (case side2 => exact HC267.out); rintro e w' ⟨rfl, ⟨nd, rfl⟩⟩; (try first | exact ⟨rfl, _, World.drewN_drewN _ _ _⟩ | exact ⟨rfl, _, Eq.trans (World.drewN_drewN _ _ _) (congrArg (World.drewN _) (Nat.add_assoc _ _ _))⟩)) | (go_at_call 39; (with_reducible refine (moraineref02_Mask.calls t268 t269 _ A45.out).mono ?_); rintro e w' ⟨rfl, ⟨nd, rfl⟩⟩; (try first | exact ⟨rfl, _, World.drewN_drewN _ _ _⟩ | exact ⟨rfl, _, Eq.trans (World.drewN_drewN _ _ _) (congrArg (World.drewN _) (Nat.add_assoc _ _ _))⟩)))
                                            repeat (go_quiet (first | (go_at_call 40; (with_reducible refine (moraineref02_Sum.calls kj32 _ _ L43 t268 _ ?side1 ?side2 A44.out).mono ?_); (case side1 => repeat (first | exact (Kd.C_below HR267.out HB.out) | (with_reducible refine Kd.C_alloc ?_ _) | (with_reducible refine Kd.C_drewN ?_ _) | (with_reducible refine Kd.C_drew ?_))); (case side2 => exact HC267.out); rintro e w' ⟨rfl, ⟨nd, rfl⟩⟩; (try first | exact ⟨rfl, _, World.drewN_drewN _ _ _⟩ | exact ⟨rfl, _, Eq.trans (World.drewN_drewN _ _ _) (congrArg (World.drewN _) (Nat.add_assoc _ _ _))⟩)) | (go_at_call 39; (with_reducible refine (moraineref02_Mask.calls t268 t269 _ A45.out).mono ?_); rintro e w' ⟨rfl, ⟨nd, rfl⟩⟩; (try first | exact ⟨rfl, _, World.drewN_drewN _ _ _⟩ | exact ⟨rfl, _, Eq.trans (World.drewN_drewN _ _ _) (congrArg (World.drewN _) (Nat.add_assoc _ _ _))⟩))); try go_wp2_with (first | (go_at_call 40; (with_reducible refine (moraineref02_Sum.calls kj32 _ _ L43 t268 _ ?side1 ?side2 A44.out).mono ?_); (case side1 => repeat (first | exact (Kd.C_below HR267.out HB.out) | (with_reducible refine Kd.C_alloc ?_ _) | (with_reducible refine Kd.C_drewN ?_ _) | (with_reducible refine Kd.C_drew ?_))); (case side2 => exact HC267.out); rintro e w' ⟨rfl, ⟨nd, rfl⟩⟩; (try first | exact ⟨rfl, _, World.drewN_drewN _ _ _⟩ | exact ⟨rfl, _, Eq.trans (World.drewN_drewN _ _ _) (congrArg (World.drewN _) (Nat.add_assoc _ _ _))⟩)) | (go_at_call 39; (with_reducible refine (moraineref02_Mask.calls t268 t269 _ A45.out).mono ?_); rintro e w' ⟨rfl, ⟨nd, rfl⟩⟩; (try first | exact ⟨rfl, _, World.drewN_drewN _ _ _⟩ | exact ⟨rfl, _, Eq.trans (World.drewN_drewN _ _ _) (congrArg (World.drewN _) (Nat.add_assoc _ _ _))⟩))))
                                            go_meet
                                            case rel => exact ⟨_, (true), (by first | rfl | (simp; done) | (simp [*]; done)), H', ⟨by have := HK1.out; have := HJ32.out; first | omega | exact Nat.le_refl _⟩, ⟨by (with_reducible repeat (first | apply Kd.S_alloc | apply Kd.S_drewN | apply Kd.S_drew)); exact HO_6.out⟩, ⟨by (with_reducible repeat (first | apply Kd.R_alloc | apply Kd.R_drewN | apply Kd.R_drew)); exact HO_7.out⟩, ⟨by repeat (first | (with_reducible first | exact HB.out | apply below_alloc | apply pw_below_drewN | apply below_drew1) | exact HB.out)⟩⟩
                                        case rest =>
                                          clear HC42
                                          try clear c1
                                          try clear c2
                                          try clear p2
                                          try clear q2
                                          try clear hx2
                                          try clear c3
                                          try clear c3b0
                                          try clear c4
                                          try clear c5
                                          try clear c5b0
                                          try clear c5b1
                                          try clear c6
                                          try clear c6b0
                                          try clear p6
                                          try clear c7
                                          try clear c7b0
                                          try clear c8
                                          try clear c8b0
                                          try clear c8b1
                                          try clear c9
                                          try clear c9b0
                                          try clear c9b1
                                          try clear c10
                                          try clear c10b0
                                          try clear c10b1
                                          try clear c12
                                          try clear c15
                                          try clear c15b0
                                          try clear c15b1
                                          try clear c16
                                          try clear c16b0
                                          try clear c16b1
                                          try clear c17
                                          try clear c17b0
                                          try clear c17b1
                                          try clear c19
                                          try clear c22
                                          try clear c22b0
                                          try clear c25
                                          try clear c25b0
                                          try clear c26
                                          try clear c26b0
                                          try clear p26
                                          try clear q26
                                          try clear hx26
                                          try clear c28
                                          try clear c28b0
                                          try clear c29
                                          try clear c29b0
                                          try clear c31
                                          try clear c31b0
                                          try clear c32
                                          try clear c32b0
                                          try clear c34
                                          try clear c34b0
                                          try clear c35
                                          try clear c35b0
                                          try clear c36
                                          try clear c37
                                          try clear c37b0
                                          try clear c39
                                          try clear c39b0
                                          try clear c39b1
                                          try clear c40
                                          try clear c40b0
                                          try clear c40b1
                                          try clear c41
                                          try clear c41b0
                                          try clear c41b1
                                          try clear c46
                                          try clear c46b0
                                          try clear c46b1
                                          try clear c47
                                          try clear c47b0
                                          try clear c47b1
                                          try clear hx264_0
                                          try clear hx265_0
                                          try clear hx266_0
                                          try clear p2
                                          try clear p26
                                          try clear p264
                                          try clear p265
                                          try clear p266
                                          try clear p6
                                          try clear q2
                                          try clear q26
                                          try clear q264
                                          try clear q265
                                          try clear q266
                                          obtain ⟨kq, x126_41, rfl, HA, HJ41, HO_6, HO_7, HB⟩ := hcut
                                          cases kq with
                                          | zero => exact absurd HA.out (by simp [moraineref07_Read.j2])
                                          | succ kj41 =>
                                            have H := HA.out
                                            clear HA
                                            simp only [moraineref07_Read.j2] at H
                                            by_cases c48 : x126_41 = true
                                            · subst c48
                                              have H1 : (some (x6_1, 2)) = some (r1, r2) := by rw [if_pos rfl] at H; exact H
                                              clear H
                                              have H := H1
                                              clear H1
                                              simp only [Option.some.injEq, Prod.mk.injEq] at H
                                              obtain ⟨rfl, rfl⟩ := H
                                              go_wp2
                                              repeat (go_quiet (fail); try go_wp2)
                                              go_ret2
                                              exact ⟨_, by first | rfl | (simp [errW_none, errW_some] <;> rfl) | (simp only [← hji24, ← hji27, ← hji30, ← hji38]; first | rfl | (simp [errW_none, errW_some] <;> rfl)) | (simp [*, errW_none, errW_some] <;> rfl), by (with_reducible repeat (first | apply Kd.S_alloc | apply Kd.S_drewN | apply Kd.S_drew)); exact Kd.S_mono HO_6.out (fun _ hk => trivial), by repeat (first | (with_reducible first | exact HB.out | apply below_alloc | apply pw_below_drewN | apply below_drew1) | exact HB.out)⟩
                                            · replace c48 := Bool.eq_false_iff.mpr c48
                                              subst c48
                                              have H1 : (if (wrap64 (rd l1 (ji30))) = 1 then (moraineref07_Read.j3 kj41 a0 l1 x6_1 x7_1 x9_1 (wrap64 ((wrap64 (rd l1 (ji24))) + (wrap64 ((wrap64 (rd l1 (ji27))) * 256)))) (wrap64 (rd l1 (ji30))) L43 true) else (moraineref07_Read.j3 kj41 a0 l1 x6_1 x7_1 x9_1 (wrap64 ((wrap64 (rd l1 (ji24))) + (wrap64 ((wrap64 (rd l1 (ji27))) * 256)))) (wrap64 (rd l1 (ji30))) L43 ((wrap64 (rd l1 (ji30))) == 2))) = some (r1, r2) := by rw [if_neg (show ¬ (false = true) by decide)] at H; exact H
                                              clear H
                                              have H := H1
                                              clear H1
                                              have HC49 := Aside0.mk H
                                              clear H
                                              go_upto_region 29 with (fail)
                                              repeat (go_quiet (fail); go_upto_region 29 with (fail))
                                              go_cut [133] (fun v133 wc => ∃ (kq : Nat) (x133_48 : Bool), v133 = .bool x133_48 ∧ Aside0 (moraineref07_Read.j3 kq a0 l1 x6_1 x7_1 x9_1 (wrap64 ((wrap64 (rd l1 (ji24))) + (wrap64 ((wrap64 (rd l1 (ji27))) * 256)))) (wrap64 (rd l1 (ji30))) L43 x133_48 = some (r1, r2)) ∧ Aside0 (kq ≤ kj41) ∧ Aside0 (Kd.S k60 60 wc w.heap.size (fun k_ => some k_ ≠ (u7 : Value).ownBlock) u6 x6_1) ∧ Aside0 (Kd.R (Kd.int .u8) 5 wc w.heap.size (fun _ => True) u7 x7_1) ∧ Aside0 (Below w.heap.size w wc))
                                              case first =>
                                                have H := HC49.out
                                                clear HC49
                                                by_cases c50 : (wrap64 (rd l1 (ji30))) = 1
                                                · rw [if_pos c50] at H
                                                  have c50b0 : ((wrap64 (rd l1 (ji30))) == 1) = true := beq_iff_eq.mpr c50
                                                  have c50b1 : ((wrap64 (rd l1 (ji30))) != 1) = false := bne_eq_false_iff_eq.mpr c50
                                                  clear c50
                                                  (first | rw [c50b0] | (simp only [i64_w, i32_w]; rw [c50b0]) | skip)
                                                  have H' := Aside0.mk H
                                                  clear H
                                                  go_wp2
                                                  repeat (go_quiet (fail); try go_wp2)
                                                  go_meet
                                                  case rel => exact ⟨_, (true), (by first | rfl | (simp; done) | (simp [*]; done)), H', ⟨by have := HK1.out; have := HJ32.out; have := HJ41.out; first | omega | exact Nat.le_refl _⟩, ⟨by (with_reducible repeat (first | apply Kd.S_alloc | apply Kd.S_drewN | apply Kd.S_drew)); exact HO_6.out⟩, ⟨by (with_reducible repeat (first | apply Kd.R_alloc | apply Kd.R_drewN | apply Kd.R_drew)); exact HO_7.out⟩, ⟨by repeat (first | (with_reducible first | exact HB.out | apply below_alloc | apply pw_below_drewN | apply below_drew1) | exact HB.out)⟩⟩
                                                · rw [if_neg c50] at H
                                                  have c50b0 : ((wrap64 (rd l1 (ji30))) == 1) = false := beq_eq_false_iff_ne.mpr c50
                                                  have c50b1 : ((wrap64 (rd l1 (ji30))) != 1) = true := bne_iff_ne.mpr c50
                                                  (first | rw [c50b0] | (simp only [i64_w, i32_w]; rw [c50b0]) | skip)
                                                  have H' := Aside0.mk H
                                                  clear H
                                                  go_wp2
                                                  repeat (go_quiet (fail); try go_wp2)
                                                  go_meet
                                                  case rel => exact ⟨_, (((wrap64 (rd l1 (ji30))) == 2)), (by first | rfl | (simp; done) | (simp only [← hji30] <;> (first | rfl | simp)) | (simp [*]; done)), H', ⟨by have := HK1.out; have := HJ32.out; have := HJ41.out; first | omega | exact Nat.le_refl _⟩, ⟨by (with_reducible repeat (first | apply Kd.S_alloc | apply Kd.S_drewN | apply Kd.S_drew)); exact HO_6.out⟩, ⟨by (with_reducible repeat (first | apply Kd.R_alloc | apply Kd.R_drewN | apply Kd.R_drew)); exact HO_7.out⟩, ⟨by repeat (first | (with_reducible first | exact HB.out | apply below_alloc | apply pw_below_drewN | apply below_drew1) | exact HB.out)⟩⟩
                                              case rest =>
                                                clear HC49
                                                try clear c1
                                                try clear c2
                                                try clear p2
                                                try clear q2
                                                try clear hx2
                                                try clear c3
                                                try clear c3b0
                                                try clear c4
                                                try clear c5
                                                try clear c5b0
                                                try clear c5b1
                                                try clear c6
                                                try clear c6b0
                                                try clear p6
                                                try clear c7
                                                try clear c7b0
                                                try clear c8
                                                try clear c8b0
                                                try clear c8b1
                                                try clear c9
                                                try clear c9b0
                                                try clear c9b1
                                                try clear c10
                                                try clear c10b0
                                                try clear c10b1
                                                try clear c12
                                                try clear c15
                                                try clear c15b0
                                                try clear c15b1
                                                try clear c16
                                                try clear c16b0
                                                try clear c16b1
                                                try clear c17
                                                try clear c17b0
                                                try clear c17b1
                                                try clear c19
                                                try clear c22
                                                try clear c22b0
                                                try clear c25
                                                try clear c25b0
                                                try clear c26
                                                try clear c26b0
                                                try clear p26
                                                try clear q26
                                                try clear hx26
                                                try clear c28
                                                try clear c28b0
                                                try clear c29
                                                try clear c29b0
                                                try clear c31
                                                try clear c31b0
                                                try clear c32
                                                try clear c32b0
                                                try clear c34
                                                try clear c34b0
                                                try clear c35
                                                try clear c35b0
                                                try clear c36
                                                try clear c37
                                                try clear c37b0
                                                try clear c39
                                                try clear c39b0
                                                try clear c39b1
                                                try clear c40
                                                try clear c40b0
                                                try clear c40b1
                                                try clear c41
                                                try clear c41b0
                                                try clear c41b1
                                                try clear c46
                                                try clear c46b0
                                                try clear c46b1
                                                try clear c47
                                                try clear c47b0
                                                try clear c47b1
                                                try clear c48
                                                try clear c50
                                                try clear c50b0
                                                try clear c50b1
                                                try clear hx264_0
                                                try clear hx265_0
                                                try clear hx266_0
                                                try clear p2
                                                try clear p26
                                                try clear p264
                                                try clear p265
                                                try clear p266
                                                try clear p6
                                                try clear q2
                                                try clear q26
                                                try clear q264
                                                try clear q265
                                                try clear q266
                                                obtain ⟨kq, x133_48, rfl, HA, HJ48, HO_6, HO_7, HB⟩ := hcut
                                                cases kq with
                                                | zero => exact absurd HA.out (by simp [moraineref07_Read.j3])
                                                | succ kj48 =>
                                                  have H := HA.out
                                                  clear HA
                                                  simp only [moraineref07_Read.j3] at H
                                                  have HC51 := Aside0.mk H
                                                  clear H
                                                  go_upto_if 133 with (fail)
                                                  repeat (go_quiet (fail); go_upto_if 133 with (fail))
                                                  go_cut [7] (fun v7 wc => ∃ (kq : Nat) (x7_50 : List Int), Aside0 (moraineref07_Read.j4 kq a0 l1 x6_1 x7_50 x9_1 (wrap64 ((wrap64 (rd l1 (ji24))) + (wrap64 ((wrap64 (rd l1 (ji27))) * 256)))) (wrap64 (rd l1 (ji30))) L43 = some (r1, r2)) ∧ Aside0 (kq ≤ kj48) ∧ Aside0 (Kd.S k60 60 wc w.heap.size (fun k_ => some k_ ≠ (v7 : Value).ownBlock) u6 x6_1) ∧ Aside0 (Kd.R (Kd.int .u8) 5 wc w.heap.size (fun _ => True) v7 x7_50) ∧ Aside0 (Below w.heap.size w wc))
                                                  case first =>
                                                    have H := HC51.out
                                                    clear HC51
                                                    by_cases c52 : x133_48 = true
                                                    · subst c52
                                                      have H1 : (moraineref07_Read.j4 kj48 a0 l1 x6_1 ([] : List Int) x9_1 (wrap64 ((wrap64 (rd l1 (ji24))) + (wrap64 ((wrap64 (rd l1 (ji27))) * 256)))) (wrap64 (rd l1 (ji30))) L43) = some (r1, r2) := by rw [if_pos rfl] at H; exact H
                                                      clear H
                                                      have H := H1
                                                      clear H1
                                                      have H' := Aside0.mk H
                                                      clear H
                                                      go_wp2
                                                      repeat (go_quiet (fail); try go_wp2)
                                                      go_meet
                                                      case rel => exact ⟨_, (([] : List Int)), H', ⟨by have := HK1.out; have := HJ32.out; have := HJ41.out; have := HJ48.out; first | omega | exact Nat.le_refl _⟩, ⟨by (with_reducible repeat (first | apply Kd.S_alloc | apply Kd.S_drewN | apply Kd.S_drew)); exact Kd.S_mono HO_6.out (fun _ hk => (by simp [Value.ownBlock]))⟩, ⟨by first | exact Kd.R_nil _ _ _ _ _ | exact Kd.N_nil _ _ _ _ _ | exact Kd.V_nil _ _ _ _ _ | exact Kd.Q_nil _ _ _ _ _ | exact Kd.S_nil _ _ _ _ _⟩, ⟨by repeat (first | (with_reducible first | exact HB.out | apply below_alloc | apply pw_below_drewN | apply below_drew1) | exact HB.out)⟩⟩
                                                    · replace c52 := Bool.eq_false_iff.mpr c52
                                                      subst c52
                                                      have H1 : (moraineref07_Read.j4 kj48 a0 l1 x6_1 x7_1 x9_1 (wrap64 ((wrap64 (rd l1 (ji24))) + (wrap64 ((wrap64 (rd l1 (ji27))) * 256)))) (wrap64 (rd l1 (ji30))) L43) = some (r1, r2) := by rw [if_neg (show ¬ (false = true) by decide)] at H; exact H
                                                      clear H
                                                      have H := H1
                                                      clear H1
                                                      have H' := Aside0.mk H
                                                      clear H
                                                      go_wp2
                                                      repeat (go_quiet (fail); try go_wp2)
                                                      go_meet
                                                      case rel => exact ⟨_, (x7_1), H', ⟨by have := HK1.out; have := HJ32.out; have := HJ41.out; have := HJ48.out; first | omega | exact Nat.le_refl _⟩, ⟨by (with_reducible repeat (first | apply Kd.S_alloc | apply Kd.S_drewN | apply Kd.S_drew)); exact HO_6.out⟩, ⟨by (with_reducible repeat (first | apply Kd.R_alloc | apply Kd.R_drewN | apply Kd.R_drew)); exact HO_7.out⟩, ⟨by repeat (first | (with_reducible first | exact HB.out | apply below_alloc | apply pw_below_drewN | apply below_drew1) | exact HB.out)⟩⟩
                                                  case rest =>
                                                    clear HC51
                                                    try clear c1
                                                    try clear c2
                                                    try clear p2
                                                    try clear q2
                                                    try clear hx2
                                                    try clear c3
                                                    try clear c3b0
                                                    try clear c4
                                                    try clear c5
                                                    try clear c5b0
                                                    try clear c5b1
                                                    try clear c6
                                                    try clear c6b0
                                                    try clear p6
                                                    try clear c7
                                                    try clear c7b0
                                                    try clear c8
                                                    try clear c8b0
                                                    try clear c8b1
                                                    try clear c9
                                                    try clear c9b0
                                                    try clear c9b1
                                                    try clear c10
                                                    try clear c10b0
                                                    try clear c10b1
                                                    try clear c12
                                                    try clear c15
                                                    try clear c15b0
                                                    try clear c15b1
                                                    try clear c16
                                                    try clear c16b0
                                                    try clear c16b1
                                                    try clear c17
                                                    try clear c17b0
                                                    try clear c17b1
                                                    try clear c19
                                                    try clear c22
                                                    try clear c22b0
                                                    try clear c25
                                                    try clear c25b0
                                                    try clear c26
                                                    try clear c26b0
                                                    try clear p26
                                                    try clear q26
                                                    try clear hx26
                                                    try clear c28
                                                    try clear c28b0
                                                    try clear c29
                                                    try clear c29b0
                                                    try clear c31
                                                    try clear c31b0
                                                    try clear c32
                                                    try clear c32b0
                                                    try clear c34
                                                    try clear c34b0
                                                    try clear c35
                                                    try clear c35b0
                                                    try clear c36
                                                    try clear c37
                                                    try clear c37b0
                                                    try clear c39
                                                    try clear c39b0
                                                    try clear c39b1
                                                    try clear c40
                                                    try clear c40b0
                                                    try clear c40b1
                                                    try clear c41
                                                    try clear c41b0
                                                    try clear c41b1
                                                    try clear c46
                                                    try clear c46b0
                                                    try clear c46b1
                                                    try clear c47
                                                    try clear c47b0
                                                    try clear c47b1
                                                    try clear c48
                                                    try clear c50
                                                    try clear c50b0
                                                    try clear c50b1
                                                    try clear c52
                                                    try clear hx264_0
                                                    try clear hx265_0
                                                    try clear hx266_0
                                                    try clear p2
                                                    try clear p26
                                                    try clear p264
                                                    try clear p265
                                                    try clear p266
                                                    try clear p6
                                                    try clear q2
                                                    try clear q26
                                                    try clear q264
                                                    try clear q265
                                                    try clear q266
                                                    obtain ⟨kq, x7_50, HA, HJ50, HO_6, HO_7, HB⟩ := hcut
                                                    cases kq with
                                                    | zero => exact absurd HA.out (by simp [moraineref07_Read.j4])
                                                    | succ kj50 =>
                                                      have H := HA.out
                                                      clear HA
                                                      simp only [moraineref07_Read.j4] at H
                                                      by_cases c53 : 1 ≤ (L43.length : Int)
                                                      · rw [if_pos c53] at H
                                                        have c53b0 := eq_true c53
                                                        have c53b1 : decide (1 ≤ (L43.length : Int)) = true := decide_eq_true c53
                                                        by_cases c54 : x7_50.length + (L43.drop 1).length < 140737488355328
                                                        · rw [if_pos c54] at H
                                                          have LMc54 := Aside0.mk c54
                                                          clear c54
                                                          obtain ⟨y271, hy271⟩ : ∃ y_ : List Int, y_ = (x7_50 ++ (L43.drop 1)) := ⟨_, rfl⟩
                                                          replace H : (if (y271.length : Int) > 2097152 then (some (x6_1, 2)) else (if (wrap64 (rd l1 (ji30))) = 2 then (moraineref07_Read.l0 kj50 a0 l1 x6_1 y271 true (wrap64 ((wrap64 (x9_1 + 7)) + (wrap64 ((wrap64 (rd l1 (ji24))) + (wrap64 ((wrap64 (rd l1 (ji27))) * 256))))))) else (if (wrap64 (rd l1 (ji30))) = 3 then (moraineref07_Read.l0 kj50 a0 l1 x6_1 y271 ((wrap64 (rd l1 (ji30))) == 3) (wrap64 ((wrap64 (x9_1 + 7)) + (wrap64 ((wrap64 (rd l1 (ji24))) + (wrap64 ((wrap64 (rd l1 (ji27))) * 256))))))) else ((some (([] : List Int) : List Int)).bind fun y274 => (if y274.length + y271.length < 140737488355328 then (if x6_1.length < 4398046511104 then (moraineref07_Read.l0 kj50 a0 l1 (x6_1 ++ [(⟨(y274 ++ y271), wrap64 ((wrap64 (x9_1 + 7)) + (wrap64 ((wrap64 (rd l1 (ji24))) + (wrap64 ((wrap64 (rd l1 (ji27))) * 256)))))⟩ : S60)]) y271 ((wrap64 (rd l1 (ji30))) == 3) (wrap64 ((wrap64 (x9_1 + 7)) + (wrap64 ((wrap64 (rd l1 (ji24))) + (wrap64 ((wrap64 (rd l1 (ji27))) * 256))))))) else (none)) else (none)))))) = some (r1, r2) := by first | (rw [hy271]; with_reducible exact H) | (have H2_ := (Option.bind_some _ _).symm.trans H; rw [hy271]; with_reducible exact H2_) | (have H2_ := (Option.bind_some _ _).symm.trans H; with_reducible exact H2_) | with_reducible exact H | (rw [hy271]; exact H) | exact H
                                                          have Ny271 := Aside0.mk hy271
                                                          clear hy271
                                                          by_cases c55 : (y271.length : Int) > 2097152
                                                          · rw [if_pos c55] at H
                                                            have c55b0 : decide (2097152 < (y271.length : Int)) = true := decide_eq_true c55
                                                            have c55b1 : decide (2097152 < y271.length) = true := decide_eq_true (by omega)
                                                            clear c55
                                                            simp only [Option.some.injEq, Prod.mk.injEq] at H
                                                            obtain ⟨rfl, rfl⟩ := H
                                                            obtain ⟨i056, hi056, _, hsz56, _⟩ := info_parts info5
                                                            obtain ⟨A56, hcut56, hA56, hC56⟩ := print_drop_of (P := Tryd.prog) (Value.int .u8) 0 22 5 .i64 Tryd.underlying22 hi056 hsz56 A43 (c1 - (ji38).toNat) L43 1 (by omega) (of_decide_eq_true (by first | (with_reducible assumption) | assumption)) HC267.out
                                                            have HR270 := Aside0.mk (Kd.C_of_reads (h1 := fun _ => rfl) (hA56 _ (Kd.reads_of_C HR267.out)))
                                                            have HC270 := Aside0.mk hC56
                                                            clear hA56 hC56 hi056 hsz56
                                                            go_wp2_with (first | ((with_reducible refine gate_builtin (b := .append) (xs := #[.tmp 134, .tmp 136]) rfl ?_); at_builtin; refine Kd.R_append_rows (Kd.int .u8) (w0 := w) w.heap.size rfl (.tmp 134) (.tmp 136) 22 5 (.int .u8 0) 1 rfl Tryd.underlying22 info5 rfl (by decide) (by omega) u7 x7_50 (L43.drop 1) _ _ _ (fun _ => True) (fun _ => False) rfl rfl ?aO ?aR (fun _ _ h => h) (fun _ h => h.elim) ?aF ?aB ?aS ?aL ?_; (case aR => first | (rw [← show (L43.drop 1).length = (L43.length - 1) from List.length_drop]; repeat (first | exact (Kd.C_below HR270.out HB.out) | (with_reducible refine Kd.C_alloc ?_ _) | (with_reducible refine Kd.C_drewN ?_ _) | (with_reducible refine Kd.C_drew ?_))) | (repeat (first | exact (Kd.C_below HR270.out HB.out) | (with_reducible refine Kd.C_alloc ?_ _) | (with_reducible refine Kd.C_drewN ?_ _) | (with_reducible refine Kd.C_drew ?_)))); (case aB => exact (by repeat (first | (with_reducible first | exact HB.out | apply below_alloc | apply pw_below_drewN | apply below_drew1) | exact HB.out))); (case aF => exact (fun _ _ => trivial)); (case aO => exact (by (with_reducible repeat (first | apply Kd.R_alloc | apply Kd.R_drewN | apply Kd.R_drew)); exact HO_7.out)); (case aS => exact (below_size (by repeat (first | (with_reducible first | exact HB.out | apply below_alloc | apply pw_below_drewN | apply below_drew1) | exact HB.out)))); (case aL => have := LMc54.out; have hlx_ := (show (L43.drop 1).length = (L43.length - 1) from List.length_drop); omega); intro v272 w57 ho hb hg hat; rw [← Ny271.out] at ho; have n0_ := Aside0.mk (Kd.S_after (ok := (fun _ => True)) (by (with_reducible repeat (first | apply Kd.S_alloc | apply Kd.S_drewN | apply Kd.S_drew)); exact Kd.S_mono HO_6.out (fun _ hk => ⟨trivial, hk⟩)) hg hat); have n1_ := Aside0.mk (hb); have n2_ := Aside0.mk (ho); clear HO_6; clear HB; clear HO_7; have HO_6 := n0_; have HB := n1_; have HO273 := n2_; clear n0_ n1_ n2_; clear ho hb hg hat; obtain ⟨Ao58, co58, eo58⟩ := Kd.R_slice HO273.out; subst eo58))
                                                            repeat (go_quiet (first | ((with_reducible refine gate_builtin (b := .append) (xs := #[.tmp 134, .tmp 136]) rfl ?_); at_builtin; refine Kd.R_append_rows (Kd.int .u8) (w0 := w) w.heap.size rfl (.tmp 134) (.tmp 136) 22 5 (.int .u8 0) 1 rfl Tryd.underlying22 info5 rfl (by decide) (by omega) u7 x7_50 (L43.drop 1) _ _ _ (fun _ => True) (fun _ => False) rfl rfl ?aO ?aR (fun _ _ h => h) (fun _ h => h.elim) ?aF ?aB ?aS ?aL ?_; (case aR => first | (rw [← show (L43.drop 1).length = (L43.length - 1) from List.length_drop]; repeat (first | exact (Kd.C_below HR270.out HB.out) | (with_reducible refine Kd.C_alloc ?_ _) | (with_reducible refine Kd.C_drewN ?_ _) | (with_reducible refine Kd.C_drew ?_))) | (repeat (first | exact (Kd.C_below HR270.out HB.out) | (with_reducible refine Kd.C_alloc ?_ _) | (with_reducible refine Kd.C_drewN ?_ _) | (with_reducible refine Kd.C_drew ?_)))); (case aB => exact (by repeat (first | (with_reducible first | exact HB.out | apply below_alloc | apply pw_below_drewN | apply below_drew1) | exact HB.out))); (case aF => exact (fun _ _ => trivial)); (case aO => exact (by (with_reducible repeat (first | apply Kd.R_alloc | apply Kd.R_drewN | apply Kd.R_drew)); exact HO_7.out)); (case aS => exact (below_size (by repeat (first | (with_reducible first | exact HB.out | apply below_alloc | apply pw_below_drewN | apply below_drew1) | exact HB.out)))); (case aL => have := LMc54.out; have hlx_ := (show (L43.drop 1).length = (L43.length - 1) from List.length_drop); omega); intro v272 w57 ho hb hg hat; rw [← Ny271.out] at ho; have n0_ := Aside0.mk (Kd.S_after (ok := (fun _ => True)) (by (with_reducible repeat (first | apply Kd.S_alloc | apply Kd.S_drewN | apply Kd.S_drew)); exact Kd.S_mono HO_6.out (fun _ hk => ⟨trivial, hk⟩)) hg hat); have n1_ := Aside0.mk (hb); have n2_ := Aside0.mk (ho); clear HO_6; clear HB; clear HO_7; have HO_6 := n0_; have HB := n1_; have HO273 := n2_; clear n0_ n1_ n2_; clear ho hb hg hat; obtain ⟨Ao58, co58, eo58⟩ := Kd.R_slice HO273.out; subst eo58)); try go_wp2_with (first | ((with_reducible refine gate_builtin (b := .append) (xs := #[.tmp 134, .tmp 136]) rfl ?_); at_builtin; refine Kd.R_append_rows (Kd.int .u8) (w0 := w) w.heap.size rfl (.tmp 134) (.tmp 136) 22 5 (.int .u8 0) 1 rfl Tryd.underlying22 info5 rfl (by decide) (by omega) u7 x7_50 (L43.drop 1) _ _ _ (fun _ => True) (fun _ => False) rfl rfl ?aO ?aR (fun _ _ h => h) (fun _ h => h.elim) ?aF ?aB ?aS ?aL ?_; (case aR => first | (rw [← show (L43.drop 1).length = (L43.length - 1) from List.length_drop]; repeat (first | exact (Kd.C_below HR270.out HB.out) | (with_reducible refine Kd.C_alloc ?_ _) | (with_reducible refine Kd.C_drewN ?_ _) | (with_reducible refine Kd.C_drew ?_))) | (repeat (first | exact (Kd.C_below HR270.out HB.out) | (with_reducible refine Kd.C_alloc ?_ _) | (with_reducible refine Kd.C_drewN ?_ _) | (with_reducible refine Kd.C_drew ?_)))); (case aB => exact (by repeat (first | (with_reducible first | exact HB.out | apply below_alloc | apply pw_below_drewN | apply below_drew1) | exact HB.out))); (case aF => exact (fun _ _ => trivial)); (case aO => exact (by (with_reducible repeat (first | apply Kd.R_alloc | apply Kd.R_drewN | apply Kd.R_drew)); exact HO_7.out)); (case aS => exact (below_size (by repeat (first | (with_reducible first | exact HB.out | apply below_alloc | apply pw_below_drewN | apply below_drew1) | exact HB.out)))); (case aL => have := LMc54.out; have hlx_ := (show (L43.drop 1).length = (L43.length - 1) from List.length_drop); omega); intro v272 w57 ho hb hg hat; rw [← Ny271.out] at ho; have n0_ := Aside0.mk (Kd.S_after (ok := (fun _ => True)) (by (with_reducible repeat (first | apply Kd.S_alloc | apply Kd.S_drewN | apply Kd.S_drew)); exact Kd.S_mono HO_6.out (fun _ hk => ⟨trivial, hk⟩)) hg hat); have n1_ := Aside0.mk (hb); have n2_ := Aside0.mk (ho); clear HO_6; clear HB; clear HO_7; have HO_6 := n0_; have HB := n1_; have HO273 := n2_; clear n0_ n1_ n2_; clear ho hb hg hat; obtain ⟨Ao58, co58, eo58⟩ := Kd.R_slice HO273.out; subst eo58)))
                                                            go_ret2
                                                            exact ⟨_, by first | rfl | (simp [errW_none, errW_some] <;> rfl) | (simp only [← hji24, ← hji27, ← hji30, ← hji38]; first | rfl | (simp [errW_none, errW_some] <;> rfl)) | (simp [*, errW_none, errW_some] <;> rfl), by (with_reducible repeat (first | apply Kd.S_alloc | apply Kd.S_drewN | apply Kd.S_drew)); exact Kd.S_mono HO_6.out (fun _ hk => trivial), by repeat (first | (with_reducible first | exact HB.out | apply below_alloc | apply pw_below_drewN | apply below_drew1) | exact HB.out)⟩
                                                          · rw [if_neg c55] at H
                                                            have c55b0 : decide (2097152 < (y271.length : Int)) = false := decide_eq_false c55
                                                            have c55b1 : decide (2097152 < y271.length) = false := decide_eq_false (by omega)
                                                            clear c55
                                                            by_cases c59 : (wrap64 (rd l1 (ji30))) = 2
                                                            · rw [if_pos c59] at H
                                                              have c59b0 : ((wrap64 (rd l1 (ji30))) == 2) = true := beq_iff_eq.mpr c59
                                                              have c59b1 : ((wrap64 (rd l1 (ji30))) != 2) = false := bne_eq_false_iff_eq.mpr c59
                                                              clear c59
                                                              have H' := Aside0.mk H
                                                              clear H
                                                              obtain ⟨i060, hi060, _, hsz60, _⟩ := info_parts info5
                                                              obtain ⟨A60, hcut60, hA60, hC60⟩ := print_drop_of (P := Tryd.prog) (Value.int .u8) 0 22 5 .i64 Tryd.underlying22 hi060 hsz60 A43 (c1 - (ji38).toNat) L43 1 (by omega) (of_decide_eq_true (by first | (with_reducible assumption) | assumption)) HC267.out
                                                              have HR270 := Aside0.mk (Kd.C_of_reads (h1 := fun _ => rfl) (hA60 _ (Kd.reads_of_C HR267.out)))
                                                              have HC270 := Aside0.mk hC60
                                                              clear hA60 hC60 hi060 hsz60
                                                              go_wp2_with (first | ((with_reducible refine gate_builtin (b := .append) (xs := #[.tmp 134, .tmp 136]) rfl ?_); at_builtin; refine Kd.R_append_rows (Kd.int .u8) (w0 := w) w.heap.size rfl (.tmp 134) (.tmp 136) 22 5 (.int .u8 0) 1 rfl Tryd.underlying22 info5 rfl (by decide) (by omega) u7 x7_50 (L43.drop 1) _ _ _ (fun _ => True) (fun _ => False) rfl rfl ?aO ?aR (fun _ _ h => h) (fun _ h => h.elim) ?aF ?aB ?aS ?aL ?_; (case aR => first | (rw [← show (L43.drop 1).length = (L43.length - 1) from List.length_drop]; repeat (first | exact (Kd.C_below HR270.out HB.out) | (with_reducible refine Kd.C_alloc ?_ _) | (with_reducible refine Kd.C_drewN ?_ _) | (with_reducible refine Kd.C_drew ?_))) | (repeat (first | exact (Kd.C_below HR270.out HB.out) | (with_reducible refine Kd.C_alloc ?_ _) | (with_reducible refine Kd.C_drewN ?_ _) | (with_reducible refine Kd.C_drew ?_)))); (case aB => exact (by repeat (first | (with_reducible first | exact HB.out | apply below_alloc | apply pw_below_drewN | apply below_drew1) | exact HB.out))); (case aF => exact (fun _ _ => trivial)); (case aO => exact (by (with_reducible repeat (first | apply Kd.R_alloc | apply Kd.R_drewN | apply Kd.R_drew)); exact HO_7.out)); (case aS => exact (below_size (by repeat (first | (with_reducible first | exact HB.out | apply below_alloc | apply pw_below_drewN | apply below_drew1) | exact HB.out)))); (case aL => have := LMc54.out; have hlx_ := (show (L43.drop 1).length = (L43.length - 1) from List.length_drop); omega); intro v272 w61 ho hb hg hat; rw [← Ny271.out] at ho; have n0_ := Aside0.mk (Kd.S_after (ok := (fun _ => True)) (by (with_reducible repeat (first | apply Kd.S_alloc | apply Kd.S_drewN | apply Kd.S_drew)); exact Kd.S_mono HO_6.out (fun _ hk => ⟨trivial, hk⟩)) hg hat); have n1_ := Aside0.mk (hb); have n2_ := Aside0.mk (ho); clear HO_6; clear HB; clear HO_7; have HO_6 := n0_; have HB := n1_; have HO273 := n2_; clear n0_ n1_ n2_; clear ho hb hg hat; obtain ⟨Ao62, co62, eo62⟩ := Kd.R_slice HO273.out; subst eo62))
                                                              repeat (go_quiet (first | ((with_reducible refine gate_builtin (b := .append) (xs := #[.tmp 134, .tmp 136]) rfl ?_); at_builtin; refine Kd.R_append_rows (Kd.int .u8) (w0 := w) w.heap.size rfl (.tmp 134) (.tmp 136) 22 5 (.int .u8 0) 1 rfl Tryd.underlying22 info5 rfl (by decide) (by omega) u7 x7_50 (L43.drop 1) _ _ _ (fun _ => True) (fun _ => False) rfl rfl ?aO ?aR (fun _ _ h => h) (fun _ h => h.elim) ?aF ?aB ?aS ?aL ?_; (case aR => first | (rw [← show (L43.drop 1).length = (L43.length - 1) from List.length_drop]; repeat (first | exact (Kd.C_below HR270.out HB.out) | (with_reducible refine Kd.C_alloc ?_ _) | (with_reducible refine Kd.C_drewN ?_ _) | (with_reducible refine Kd.C_drew ?_))) | (repeat (first | exact (Kd.C_below HR270.out HB.out) | (with_reducible refine Kd.C_alloc ?_ _) | (with_reducible refine Kd.C_drewN ?_ _) | (with_reducible refine Kd.C_drew ?_)))); (case aB => exact (by repeat (first | (with_reducible first | exact HB.out | apply below_alloc | apply pw_below_drewN | apply below_drew1) | exact HB.out))); (case aF => exact (fun _ _ => trivial)); (case aO => exact (by (with_reducible repeat (first | apply Kd.R_alloc | apply Kd.R_drewN | apply Kd.R_drew)); exact HO_7.out)); (case aS => exact (below_size (by repeat (first | (with_reducible first | exact HB.out | apply below_alloc | apply pw_below_drewN | apply below_drew1) | exact HB.out)))); (case aL => have := LMc54.out; have hlx_ := (show (L43.drop 1).length = (L43.length - 1) from List.length_drop); omega); intro v272 w61 ho hb hg hat; rw [← Ny271.out] at ho; have n0_ := Aside0.mk (Kd.S_after (ok := (fun _ => True)) (by (with_reducible repeat (first | apply Kd.S_alloc | apply Kd.S_drewN | apply Kd.S_drew)); exact Kd.S_mono HO_6.out (fun _ hk => ⟨trivial, hk⟩)) hg hat); have n1_ := Aside0.mk (hb); have n2_ := Aside0.mk (ho); clear HO_6; clear HB; clear HO_7; have HO_6 := n0_; have HB := n1_; have HO273 := n2_; clear n0_ n1_ n2_; clear ho hb hg hat; obtain ⟨Ao62, co62, eo62⟩ := Kd.R_slice HO273.out; subst eo62)); try go_wp2_with (first | ((with_reducible refine gate_builtin (b := .append) (xs := #[.tmp 134, .tmp 136]) rfl ?_); at_builtin; refine Kd.R_append_rows (Kd.int .u8) (w0 := w) w.heap.size rfl (.tmp 134) (.tmp 136) 22 5 (.int .u8 0) 1 rfl Tryd.underlying22 info5 rfl (by decide) (by omega) u7 x7_50 (L43.drop 1) _ _ _ (fun _ => True) (fun _ => False) rfl rfl ?aO ?aR (fun _ _ h => h) (fun _ h => h.elim) ?aF ?aB ?aS ?aL ?_; (case aR => first | (rw [← show (L43.drop 1).length = (L43.length - 1) from List.length_drop]; repeat (first | exact (Kd.C_below HR270.out HB.out) | (with_reducible refine Kd.C_alloc ?_ _) | (with_reducible refine Kd.C_drewN ?_ _) | (with_reducible refine Kd.C_drew ?_))) | (repeat (first | exact (Kd.C_below HR270.out HB.out) | (with_reducible refine Kd.C_alloc ?_ _) | (with_reducible refine Kd.C_drewN ?_ _) | (with_reducible refine Kd.C_drew ?_)))); (case aB => exact (by repeat (first | (with_reducible first | exact HB.out | apply below_alloc | apply pw_below_drewN | apply below_drew1) | exact HB.out))); (case aF => exact (fun _ _ => trivial)); (case aO => exact (by (with_reducible repeat (first | apply Kd.R_alloc | apply Kd.R_drewN | apply Kd.R_drew)); exact HO_7.out)); (case aS => exact (below_size (by repeat (first | (with_reducible first | exact HB.out | apply below_alloc | apply pw_below_drewN | apply below_drew1) | exact HB.out)))); (case aL => have := LMc54.out; have hlx_ := (show (L43.drop 1).length = (L43.length - 1) from List.length_drop); omega); intro v272 w61 ho hb hg hat; rw [← Ny271.out] at ho; have n0_ := Aside0.mk (Kd.S_after (ok := (fun _ => True)) (by (with_reducible repeat (first | apply Kd.S_alloc | apply Kd.S_drewN | apply Kd.S_drew)); exact Kd.S_mono HO_6.out (fun _ hk => ⟨trivial, hk⟩)) hg hat); have n1_ := Aside0.mk (hb); have n2_ := Aside0.mk (ho); clear HO_6; clear HB; clear HO_7; have HO_6 := n0_; have HB := n1_; have HO273 := n2_; clear n0_ n1_ n2_; clear ho hb hg hat; obtain ⟨Ao62, co62, eo62⟩ := Kd.R_slice HO273.out; subst eo62)))
                                                              go_roundg kj50
                                                              case measure => have := HK1.out; have := HJ32.out; have := HJ41.out; have := HJ48.out; have := HJ50.out; omega
                                                              case rel => exact ⟨(x6_1), (y271), (true), (wrap64 ((wrap64 (x9_1 + 7)) + (wrap64 ((wrap64 (rd l1 (ji24))) + (wrap64 ((wrap64 (rd l1 (ji27))) * 256)))))), (by first | rfl | (simp; done) | (simp [*]; done)), (by first | rfl | (simp; done) | (simp only [← hji24, ← hji27] <;> (first | rfl | simp)) | (simp [*]; done)), H', ⟨by have := HK1.out; have := HJ32.out; have := HJ41.out; have := HJ48.out; have := HJ50.out; omega⟩, ⟨by (with_reducible repeat (first | apply Kd.S_alloc | apply Kd.S_drewN | apply Kd.S_drew)); exact Kd.S_mono HO_6.out (fun _ hk => hk.2)⟩, ⟨by (with_reducible repeat (first | apply Kd.R_alloc | apply Kd.R_drewN | apply Kd.R_drew)); exact HO273.out⟩, ⟨by repeat (first | (with_reducible first | exact HB.out | apply below_alloc | apply pw_below_drewN | apply below_drew1) | exact HB.out)⟩⟩
                                                            · rw [if_neg c59] at H
                                                              have c59b0 : ((wrap64 (rd l1 (ji30))) == 2) = false := beq_eq_false_iff_ne.mpr c59
                                                              have c59b1 : ((wrap64 (rd l1 (ji30))) != 2) = true := bne_iff_ne.mpr c59
                                                              by_cases c63 : (wrap64 (rd l1 (ji30))) = 3
                                                              · rw [if_pos c63] at H
                                                                have c63b0 : ((wrap64 (rd l1 (ji30))) == 3) = true := beq_iff_eq.mpr c63
                                                                have c63b1 : ((wrap64 (rd l1 (ji30))) != 3) = false := bne_eq_false_iff_eq.mpr c63
                                                                clear c63
                                                                have H' := Aside0.mk H
                                                                clear H
                                                                obtain ⟨i064, hi064, _, hsz64, _⟩ := info_parts info5
                                                                obtain ⟨A64, hcut64, hA64, hC64⟩ := print_drop_of (P := Tryd.prog) (Value.int .u8) 0 22 5 .i64 Tryd.underlying22 hi064 hsz64 A43 (c1 - (ji38).toNat) L43 1 (by omega) (of_decide_eq_true (by first | (with_reducible assumption) | assumption)) HC267.out
                                                                have HR270 := Aside0.mk (Kd.C_of_reads (h1 := fun _ => rfl) (hA64 _ (Kd.reads_of_C HR267.out)))
                                                                have HC270 := Aside0.mk hC64
                                                                clear hA64 hC64 hi064 hsz64
                                                                go_wp2_with (first | ((with_reducible refine gate_builtin (b := .append) (xs := #[.tmp 134, .tmp 136]) rfl ?_); at_builtin; refine Kd.R_append_rows (Kd.int .u8) (w0 := w) w.heap.size rfl (.tmp 134) (.tmp 136) 22 5 (.int .u8 0) 1 rfl Tryd.underlying22 info5 rfl (by decide) (by omega) u7 x7_50 (L43.drop 1) _ _ _ (fun _ => True) (fun _ => False) rfl rfl ?aO ?aR (fun _ _ h => h) (fun _ h => h.elim) ?aF ?aB ?aS ?aL ?_; (case aR => first | (rw [← show (L43.drop 1).length = (L43.length - 1) from List.length_drop]; repeat (first | exact (Kd.C_below HR270.out HB.out) | (with_reducible refine Kd.C_alloc ?_ _) | (with_reducible refine Kd.C_drewN ?_ _) | (with_reducible refine Kd.C_drew ?_))) | (repeat (first | exact (Kd.C_below HR270.out HB.out) | (with_reducible refine Kd.C_alloc ?_ _) | (with_reducible refine Kd.C_drewN ?_ _) | (with_reducible refine Kd.C_drew ?_)))); (case aB => exact (by repeat (first | (with_reducible first | exact HB.out | apply below_alloc | apply pw_below_drewN | apply below_drew1) | exact HB.out))); (case aF => exact (fun _ _ => trivial)); (case aO => exact (by (with_reducible repeat (first | apply Kd.R_alloc | apply Kd.R_drewN | apply Kd.R_drew)); exact HO_7.out)); (case aS => exact (below_size (by repeat (first | (with_reducible first | exact HB.out | apply below_alloc | apply pw_below_drewN | apply below_drew1) | exact HB.out)))); (case aL => have := LMc54.out; have hlx_ := (show (L43.drop 1).length = (L43.length - 1) from List.length_drop); omega); intro v272 w65 ho hb hg hat; rw [← Ny271.out] at ho; have n0_ := Aside0.mk (Kd.S_after (ok := (fun _ => True)) (by (with_reducible repeat (first | apply Kd.S_alloc | apply Kd.S_drewN | apply Kd.S_drew)); exact Kd.S_mono HO_6.out (fun _ hk => ⟨trivial, hk⟩)) hg hat); have n1_ := Aside0.mk (hb); have n2_ := Aside0.mk (ho); clear HO_6; clear HB; clear HO_7; have HO_6 := n0_; have HB := n1_; have HO273 := n2_; clear n0_ n1_ n2_; clear ho hb hg hat; obtain ⟨Ao66, co66, eo66⟩ := Kd.R_slice HO273.out; subst eo66))
                                                                repeat (go_quiet (first | ((with_reducible refine gate_builtin (b := .append) (xs := #[.tmp 134, .tmp 136]) rfl ?_); at_builtin; refine Kd.R_append_rows (Kd.int .u8) (w0 := w) w.heap.size rfl (.tmp 134) (.tmp 136) 22 5 (.int .u8 0) 1 rfl Tryd.underlying22 info5 rfl (by decide) (by omega) u7 x7_50 (L43.drop 1) _ _ _ (fun _ => True) (fun _ => False) rfl rfl ?aO ?aR (fun _ _ h => h) (fun _ h => h.elim) ?aF ?aB ?aS ?aL ?_; (case aR => first | (rw [← show (L43.drop 1).length = (L43.length - 1) from List.length_drop]; repeat (first | exact (Kd.C_below HR270.out HB.out) | (with_reducible refine Kd.C_alloc ?_ _) | (with_reducible refine Kd.C_drewN ?_ _) | (with_reducible refine Kd.C_drew ?_))) | (repeat (first | exact (Kd.C_below HR270.out HB.out) | (with_reducible refine Kd.C_alloc ?_ _) | (with_reducible refine Kd.C_drewN ?_ _) | (with_reducible refine Kd.C_drew ?_)))); (case aB => exact (by repeat (first | (with_reducible first | exact HB.out | apply below_alloc | apply pw_below_drewN | apply below_drew1) | exact HB.out))); (case aF => exact (fun _ _ => trivial)); (case aO => exact (by (with_reducible repeat (first | apply Kd.R_alloc | apply Kd.R_drewN | apply Kd.R_drew)); exact HO_7.out)); (case aS => exact (below_size (by repeat (first | (with_reducible first | exact HB.out | apply below_alloc | apply pw_below_drewN | apply below_drew1) | exact HB.out)))); (case aL => have := LMc54.out; have hlx_ := (show (L43.drop 1).length = (L43.length - 1) from List.length_drop); omega); intro v272 w65 ho hb hg hat; rw [← Ny271.out] at ho; have n0_ := Aside0.mk (Kd.S_after (ok := (fun _ => True)) (by (with_reducible repeat (first | apply Kd.S_alloc | apply Kd.S_drewN | apply Kd.S_drew)); exact Kd.S_mono HO_6.out (fun _ hk => ⟨trivial, hk⟩)) hg hat); have n1_ := Aside0.mk (hb); have n2_ := Aside0.mk (ho); clear HO_6; clear HB; clear HO_7; have HO_6 := n0_; have HB := n1_; have HO273 := n2_; clear n0_ n1_ n2_; clear ho hb hg hat; obtain ⟨Ao66, co66, eo66⟩ := Kd.R_slice HO273.out; subst eo66)); try go_wp2_with (first | ((with_reducible refine gate_builtin (b := .append) (xs := #[.tmp 134, .tmp 136]) rfl ?_); at_builtin; refine Kd.R_append_rows (Kd.int .u8) (w0 := w) w.heap.size rfl (.tmp 134) (.tmp 136) 22 5 (.int .u8 0) 1 rfl Tryd.underlying22 info5 rfl (by decide) (by omega) u7 x7_50 (L43.drop 1) _ _ _ (fun _ => True) (fun _ => False) rfl rfl ?aO ?aR (fun _ _ h => h) (fun _ h => h.elim) ?aF ?aB ?aS ?aL ?_; (case aR => first | (rw [← show (L43.drop 1).length = (L43.length - 1) from List.length_drop]; repeat (first | exact (Kd.C_below HR270.out HB.out) | (with_reducible refine Kd.C_alloc ?_ _) | (with_reducible refine Kd.C_drewN ?_ _) | (with_reducible refine Kd.C_drew ?_))) | (repeat (first | exact (Kd.C_below HR270.out HB.out) | (with_reducible refine Kd.C_alloc ?_ _) | (with_reducible refine Kd.C_drewN ?_ _) | (with_reducible refine Kd.C_drew ?_)))); (case aB => exact (by repeat (first | (with_reducible first | exact HB.out | apply below_alloc | apply pw_below_drewN | apply below_drew1) | exact HB.out))); (case aF => exact (fun _ _ => trivial)); (case aO => exact (by (with_reducible repeat (first | apply Kd.R_alloc | apply Kd.R_drewN | apply Kd.R_drew)); exact HO_7.out)); (case aS => exact (below_size (by repeat (first | (with_reducible first | exact HB.out | apply below_alloc | apply pw_below_drewN | apply below_drew1) | exact HB.out)))); (case aL => have := LMc54.out; have hlx_ := (show (L43.drop 1).length = (L43.length - 1) from List.length_drop); omega); intro v272 w65 ho hb hg hat; rw [← Ny271.out] at ho; have n0_ := Aside0.mk (Kd.S_after (ok := (fun _ => True)) (by (with_reducible repeat (first | apply Kd.S_alloc | apply Kd.S_drewN | apply Kd.S_drew)); exact Kd.S_mono HO_6.out (fun _ hk => ⟨trivial, hk⟩)) hg hat); have n1_ := Aside0.mk (hb); have n2_ := Aside0.mk (ho); clear HO_6; clear HB; clear HO_7; have HO_6 := n0_; have HB := n1_; have HO273 := n2_; clear n0_ n1_ n2_; clear ho hb hg hat; obtain ⟨Ao66, co66, eo66⟩ := Kd.R_slice HO273.out; subst eo66)))
                                                                go_roundg kj50
                                                                case measure => have := HK1.out; have := HJ32.out; have := HJ41.out; have := HJ48.out; have := HJ50.out; omega
                                                                case rel => exact ⟨(x6_1), (y271), (((wrap64 (rd l1 (ji30))) == 3)), (wrap64 ((wrap64 (x9_1 + 7)) + (wrap64 ((wrap64 (rd l1 (ji24))) + (wrap64 ((wrap64 (rd l1 (ji27))) * 256)))))), (by first | rfl | (simp; done) | (simp only [← hji30] <;> (first | rfl | simp)) | (simp [*]; done)), (by first | rfl | (simp; done) | (simp only [← hji24, ← hji27] <;> (first | rfl | simp)) | (simp [*]; done)), H', ⟨by have := HK1.out; have := HJ32.out; have := HJ41.out; have := HJ48.out; have := HJ50.out; omega⟩, ⟨by (with_reducible repeat (first | apply Kd.S_alloc | apply Kd.S_drewN | apply Kd.S_drew)); exact Kd.S_mono HO_6.out (fun _ hk => hk.2)⟩, ⟨by (with_reducible repeat (first | apply Kd.R_alloc | apply Kd.R_drewN | apply Kd.R_drew)); exact HO273.out⟩, ⟨by repeat (first | (with_reducible first | exact HB.out | apply below_alloc | apply pw_below_drewN | apply below_drew1) | exact HB.out)⟩⟩
                                                              · rw [if_neg c63] at H
                                                                have c63b0 : ((wrap64 (rd l1 (ji30))) == 3) = false := beq_eq_false_iff_ne.mpr c63
                                                                have c63b1 : ((wrap64 (rd l1 (ji30))) != 3) = true := bne_iff_ne.mpr c63
                                                                obtain ⟨y274, hy274⟩ : ∃ y_ : List Int, y_ = (([] : List Int)) := ⟨_, rfl⟩
                                                                replace H : (if y274.length + y271.length < 140737488355328 then (if x6_1.length < 4398046511104 then (moraineref07_Read.l0 kj50 a0 l1 (x6_1 ++ [(⟨(y274 ++ y271), wrap64 ((wrap64 (x9_1 + 7)) + (wrap64 ((wrap64 (rd l1 (ji24))) + (wrap64 ((wrap64 (rd l1 (ji27))) * 256)))))⟩ : S60)]) y271 ((wrap64 (rd l1 (ji30))) == 3) (wrap64 ((wrap64 (x9_1 + 7)) + (wrap64 ((wrap64 (rd l1 (ji24))) + (wrap64 ((wrap64 (rd l1 (ji27))) * 256))))))) else (none)) else (none)) = some (r1, r2) := by first | (rw [hy274]; with_reducible exact H) | (have H2_ := (Option.bind_some _ _).symm.trans H; rw [hy274]; with_reducible exact H2_) | (have H2_ := (Option.bind_some _ _).symm.trans H; with_reducible exact H2_) | with_reducible exact H | (rw [hy274]; exact H) | exact H
                                                                have Ny274 := Aside0.mk hy274
                                                                clear hy274
                                                                by_cases c67 : y274.length + y271.length < 140737488355328
                                                                · rw [if_pos c67] at H
                                                                  have LMc67 := Aside0.mk c67
                                                                  clear c67
                                                                  obtain ⟨y277, hy277⟩ : ∃ y_ : List Int, y_ = (y274 ++ y271) := ⟨_, rfl⟩
                                                                  replace H : (if x6_1.length < 4398046511104 then (moraineref07_Read.l0 kj50 a0 l1 (x6_1 ++ [(⟨y277, wrap64 ((wrap64 (x9_1 + 7)) + (wrap64 ((wrap64 (rd l1 (ji24))) + (wrap64 ((wrap64 (rd l1 (ji27))) * 256)))))⟩ : S60)]) y271 ((wrap64 (rd l1 (ji30))) == 3) (wrap64 ((wrap64 (x9_1 + 7)) + (wrap64 ((wrap64 (rd l1 (ji24))) + (wrap64 ((wrap64 (rd l1 (ji27))) * 256))))))) else (none)) = some (r1, r2) := by first | (rw [hy277]; with_reducible exact H) | (have H2_ := (Option.bind_some _ _).symm.trans H; rw [hy277]; with_reducible exact H2_) | (have H2_ := (Option.bind_some _ _).symm.trans H; with_reducible exact H2_) | with_reducible exact H | (rw [hy277]; exact H) | exact H
                                                                  have Ny277 := Aside0.mk hy277
                                                                  clear hy277
                                                                  by_cases c68 : x6_1.length < 4398046511104
                                                                  · rw [if_pos c68] at H
                                                                    have LMc68 := Aside0.mk c68
                                                                    clear c68
                                                                    obtain ⟨y280, hy280⟩ : ∃ y_ : List (S60), y_ = (x6_1 ++ [(⟨y277, wrap64 ((wrap64 (x9_1 + 7)) + (wrap64 ((wrap64 (rd l1 (ji24))) + (wrap64 ((wrap64 (rd l1 (ji27))) * 256)))))⟩ : S60)]) := ⟨_, rfl⟩
                                                                    replace H : (moraineref07_Read.l0 kj50 a0 l1 y280 y271 ((wrap64 (rd l1 (ji30))) == 3) (wrap64 ((wrap64 (x9_1 + 7)) + (wrap64 ((wrap64 (rd l1 (ji24))) + (wrap64 ((wrap64 (rd l1 (ji27))) * 256))))))) = some (r1, r2) := by first | (rw [hy280]; with_reducible exact H) | (have H2_ := (Option.bind_some _ _).symm.trans H; rw [hy280]; with_reducible exact H2_) | (have H2_ := (Option.bind_some _ _).symm.trans H; with_reducible exact H2_) | with_reducible exact H | (rw [hy280]; exact H) | exact H
                                                                    have Ny280 := Aside0.mk hy280
                                                                    clear hy280
                                                                    have H' := Aside0.mk H
                                                                    clear H
                                                                    obtain ⟨i069, hi069, _, hsz69, _⟩ := info_parts info5
                                                                    obtain ⟨A69, hcut69, hA69, hC69⟩ := print_drop_of (P := Tryd.prog) (Value.int .u8) 0 22 5 .i64 Tryd.underlying22 hi069 hsz69 A43 (c1 - (ji38).toNat) L43 1 (by omega) (of_decide_eq_true (by first | (with_reducible assumption) | assumption)) HC267.out
                                                                    have HR270 := Aside0.mk (Kd.C_of_reads (h1 := fun _ => rfl) (hA69 _ (Kd.reads_of_C HR267.out)))
                                                                    have HC270 := Aside0.mk hC69
                                                                    clear hA69 hC69 hi069 hsz69
                                                                    go_wp2_with (first | ((with_reducible refine gate_builtin (b := .append) (xs := #[.tmp 134, .tmp 136]) rfl ?_); at_builtin; refine Kd.R_append_rows (Kd.int .u8) (w0 := w) w.heap.size rfl (.tmp 134) (.tmp 136) 22 5 (.int .u8 0) 1 rfl Tryd.underlying22 info5 rfl (by decide) (by omega) u7 x7_50 (L43.drop 1) _ _ _ (fun _ => True) (fun _ => False) rfl rfl ?aO ?aR (fun _ _ h => h) (fun _ h => h.elim) ?aF ?aB ?aS ?aL ?_; (case aR => first | (rw [← show (L43.drop 1).length = (L43.length - 1) from List.length_drop]; repeat (first | exact (Kd.C_below HR270.out HB.out) | (with_reducible refine Kd.C_alloc ?_ _) | (with_reducible refine Kd.C_drewN ?_ _) | (with_reducible refine Kd.C_drew ?_))) | (repeat (first | exact (Kd.C_below HR270.out HB.out) | (with_reducible refine Kd.C_alloc ?_ _) | (with_reducible refine Kd.C_drewN ?_ _) | (with_reducible refine Kd.C_drew ?_)))); (case aB => exact (by repeat (first | (with_reducible first | exact HB.out | apply below_alloc | apply pw_below_drewN | apply below_drew1) | exact HB.out))); (case aF => exact (fun _ _ => trivial)); (case aO => exact (by (with_reducible repeat (first | apply Kd.R_alloc | apply Kd.R_drewN | apply Kd.R_drew)); exact HO_7.out)); (case aS => exact (below_size (by repeat (first | (with_reducible first | exact HB.out | apply below_alloc | apply pw_below_drewN | apply below_drew1) | exact HB.out)))); (case aL => have := LMc54.out; have hlx_ := (show (L43.drop 1).length = (L43.length - 1) from List.length_drop); omega); intro v272 w70 ho hb hg hat; rw [← Ny271.out] at ho; have n0_ := Aside0.mk (Kd.S_after (ok := (fun _ => True)) (by (with_reducible repeat (first | apply Kd.S_alloc | apply Kd.S_drewN | apply Kd.S_drew)); exact Kd.S_mono HO_6.out (fun _ hk => ⟨trivial, hk⟩)) hg hat); have n1_ := Aside0.mk (hb); have n2_ := Aside0.mk (ho); clear HO_6; clear HB; clear HO_7; have HO_6 := n0_; have HB := n1_; have HO273 := n2_; clear n0_ n1_ n2_; clear ho hb hg hat; obtain ⟨Ao71, co71, eo71⟩ := Kd.R_slice HO273.out; subst eo71) | ((with_reducible refine gate_dst (N := 155) rfl ?_); refine Kd.R_lit (Kd.int .u8) _ 5 ?hg (N := 155) ?hd (xs := ([] : List Int)) (inner := []) (ok := fun _ => True) (okp := fun _ => True) ?hr ?hp (fun _ hk => hk) trivial (Below.refl _ _) (Nat.le_refl _) (by simp) ?_; (case hd => rfl); (case hg => rfl); (case hr => first | (go_simp; done) | (go_simp; rfl)); (case hp => exact (Reps.none _ _)); intro v275 w72 ho73 hb hg_ hnew_; clear hg_ hnew_; (first | rw [← Ny274.out] at ho73 | (simp only [Int.reduceToNat] at ho73; rw [← Ny274.out] at ho73)); have n0_ := Aside0.mk (Kd.S_elder' (by (with_reducible repeat (first | apply Kd.S_alloc | apply Kd.S_drewN | apply Kd.S_drew)); exact HO_6.out) (Kd.R_base ho73) hb); have n1_ := Aside0.mk (Kd.R_elder' (by (with_reducible repeat (first | apply Kd.R_alloc | apply Kd.R_drewN | apply Kd.R_drew)); exact HO273.out) (Kd.R_base ho73) hb); have n2_ := Aside0.mk (Kd.R_lower (Kd.R_new' ho73 (Kd.R_lt (by (with_reducible repeat (first | apply Kd.R_alloc | apply Kd.R_drewN | apply Kd.R_drew)); exact HO273.out))) (below_size (by repeat (first | (with_reducible first | exact HB.out | apply below_alloc | apply pw_below_drewN | apply below_drew1) | exact HB.out)))); have n3_ := Aside0.mk (below_step (by repeat (first | (with_reducible first | exact HB.out | apply below_alloc | apply pw_below_drewN | apply below_drew1) | exact HB.out)) hb); clear HO_6; clear HO273; clear HB; have HO_6 := n0_; have HO273 := n1_; have HO276 := n2_; have HB := n3_; clear n0_ n1_ n2_ n3_; clear hb ho73) | ((with_reducible refine gate_builtin (b := .append) (xs := #[.tmp 155, .tmp 156]) rfl ?_); at_builtin; refine Kd.R_append_rows (Kd.int .u8) (w0 := w) w.heap.size rfl (.tmp 155) (.tmp 156) 22 5 (.int .u8 0) 1 rfl Tryd.underlying22 info5 rfl (by decide) (by omega) v275 y274 y271 _ _ _ (fun k_ => some k_ ≠ (.slice Ao71 y271.length co71 : Value).ownBlock) (fun _ => False) rfl rfl ?aO ?aR (fun _ _ h => h) (fun _ h => h.elim) ?aF ?aB ?aS ?aL ?_; (case aR => repeat (first | exact (Kd.R_reads' HO273.out).2.2 | (with_reducible refine Kd.C_alloc ?_ _) | (with_reducible refine Kd.C_drewN ?_ _) | (with_reducible refine Kd.C_drew ?_))); (case aB => exact (by repeat (first | (with_reducible first | exact HB.out | apply below_alloc | apply pw_below_drewN | apply below_drew1) | exact HB.out))); (case aF => exact (fun k_ hk => Kd.fresh' (Kd.R_lt (by (with_reducible repeat (first | apply Kd.R_alloc | apply Kd.R_drewN | apply Kd.R_drew)); exact HO273.out)) k_ hk)); (case aO => exact (by (with_reducible repeat (first | apply Kd.R_alloc | apply Kd.R_drewN | apply Kd.R_drew)); exact Kd.R_mono HO276.out (fun _ hk => hk.2))); (case aS => exact (below_size (by repeat (first | (with_reducible first | exact HB.out | apply below_alloc | apply pw_below_drewN | apply below_drew1) | exact HB.out)))); (case aL => have := LMc67.out; omega); intro v278 w74 ho hb hg hat; rw [← Ny277.out] at ho; have n0_ := Aside0.mk (Kd.S_after (ok := (fun k_ => some k_ ≠ (.slice Ao71 y271.length co71 : Value).ownBlock)) (by (with_reducible repeat (first | apply Kd.S_alloc | apply Kd.S_drewN | apply Kd.S_drew)); exact Kd.S_mono HO_6.out (fun _ hk => ⟨hk.1.2, hk.2⟩)) hg hat); have n1_ := Aside0.mk (Kd.R_after (ok := (fun _ => True)) (by (with_reducible repeat (first | apply Kd.R_alloc | apply Kd.R_drewN | apply Kd.R_drew)); exact HO273.out) hg hat); have n2_ := Aside0.mk (hb); have n3_ := Aside0.mk (ho); clear HO_6; clear HO273; clear HB; clear HO276; have HO_6 := n0_; have HO273 := n1_; have HB := n2_; have HO279 := n3_; clear n0_ n1_ n2_ n3_; clear ho hb hg hat; obtain ⟨Ao75, co75, eo75⟩ := Kd.R_slice HO279.out; subst eo75) | ((with_reducible refine gate_builtin (b := .append) (xs := #[.tmp 154, .tmp 160]) rfl ?_); at_builtin; refine Kd.S_append k60 (w0 := w) w.heap.size rfl (.tmp 154) (.tmp 160) 55 60 (.agg #[(.slice none 0 0), (.int .i64 0)]) 32 rfl Tryd.underlying55 info60 rfl (by decide) (by omega) u6 x6_1 (⟨y277, wrap64 ((wrap64 (x9_1 + 7)) + (wrap64 ((wrap64 (rd l1 (ji24))) + (wrap64 ((wrap64 (rd l1 (ji27))) * 256)))))⟩ : S60) [.slice Ao75 y277.length co75, .int .i64 (wrap64 ((wrap64 (x9_1 + 7)) + (wrap64 ((wrap64 (rd l1 (ji24))) + (wrap64 ((wrap64 (rd l1 (ji27))) * 256))))))] (fun k_ => some k_ ≠ (.slice Ao71 y271.length co71 : Value).ownBlock) (fun k_ => some k_ = (.slice Ao75 y277.length co75 : Value).ownBlock) rfl rfl ?aP (fun k_ hk_ => ((Kd.R_mono (ok' := fun k_ => ((fun k_ => some k_ ≠ (.slice Ao71 y271.length co71 : Value).ownBlock)) k_ ∧ some k_ ≠ (u6 : Value).ownBlock) (Kd.R_apart' (HO279.out) (Kd.S_typed HO_6.out) (by decide)) (fun k_ hk => ⟨hk.1, hk.2⟩))).1 k_ hk_.symm) ?aF ?aO ?aB ?aS ?aL ?_; (case aP => exact k60_mkM _ _ _ (⟨y277, wrap64 ((wrap64 (x9_1 + 7)) + (wrap64 ((wrap64 (rd l1 (ji24))) + (wrap64 ((wrap64 (rd l1 (ji27))) * 256)))))⟩ : S60) (Kd.R_mono (Kd.R_tight rfl (Kd.R_mono (ok' := fun k_ => ((fun k_ => some k_ ≠ (.slice Ao71 y271.length co71 : Value).ownBlock)) k_ ∧ some k_ ≠ (u6 : Value).ownBlock) (Kd.R_apart' (HO279.out) (Kd.S_typed HO_6.out) (by decide)) (fun k_ hk => ⟨hk.1, hk.2⟩))) (fun _ h_ => h_))); (case aB => exact (by repeat (first | (with_reducible first | exact HB.out | apply below_alloc | apply pw_below_drewN | apply below_drew1) | exact HB.out))); (case aF => exact (fun k_ hk => Kd.fresh' (Kd.R_lt (by (with_reducible repeat (first | apply Kd.R_alloc | apply Kd.R_drewN | apply Kd.R_drew)); exact HO273.out)) k_ hk)); (case aO => exact (by (with_reducible repeat (first | apply Kd.S_alloc | apply Kd.S_drewN | apply Kd.S_drew)); exact Kd.S_mono HO_6.out (fun k_ hk => ⟨hk.1, fun e_ => hk.2 e_⟩))); (case aS => exact (below_size (by repeat (first | (with_reducible first | exact HB.out | apply below_alloc | apply pw_below_drewN | apply below_drew1) | exact HB.out)))); (case aL => have := LMc68.out; omega); intro v281 w76 ho hb hg hat; rw [← Ny280.out] at ho; have n0_ := Aside0.mk (Kd.R_over' (by (with_reducible repeat (first | apply Kd.R_alloc | apply Kd.R_drewN | apply Kd.R_drew)); exact HO273.out) (Kd.S_typed (by (with_reducible repeat (first | apply Kd.S_alloc | apply Kd.S_drewN | apply Kd.S_drew)); exact HO_6.out)) (by decide) hg); have n1_ := Aside0.mk (hb); have n2_ := Aside0.mk (ho); clear HO273; clear HB; clear HO_6; clear HO279; have HO273 := n0_; have HB := n1_; have HO282 := n2_; clear n0_ n1_ n2_; clear ho hb hg hat))
                                                                    repeat (go_quiet (first | ((with_reducible refine gate_builtin (b := .append) (xs := #[.tmp 134, .tmp 136]) rfl ?_); at_builtin; refine Kd.R_append_rows (Kd.int .u8) (w0 := w) w.heap.size rfl (.tmp 134) (.tmp 136) 22 5 (.int .u8 0) 1 rfl Tryd.underlying22 info5 rfl (by decide) (by omega) u7 x7_50 (L43.drop 1) _ _ _ (fun _ => True) (fun _ => False) rfl rfl ?aO ?aR (fun _ _ h => h) (fun _ h => h.elim) ?aF ?aB ?aS ?aL ?_; (case aR => first | (rw [← show (L43.drop 1).length = (L43.length - 1) from List.length_drop]; repeat (first | exact (Kd.C_below HR270.out HB.out) | (with_reducible refine Kd.C_alloc ?_ _) | (with_reducible refine Kd.C_drewN ?_ _) | (with_reducible refine Kd.C_drew ?_))) | (repeat (first | exact (Kd.C_below HR270.out HB.out) | (with_reducible refine Kd.C_alloc ?_ _) | (with_reducible refine Kd.C_drewN ?_ _) | (with_reducible refine Kd.C_drew ?_)))); (case aB => exact (by repeat (first | (with_reducible first | exact HB.out | apply below_alloc | apply pw_below_drewN | apply below_drew1) | exact HB.out))); (case aF => exact (fun _ _ => trivial)); (case aO => exact (by (with_reducible repeat (first | apply Kd.R_alloc | apply Kd.R_drewN | apply Kd.R_drew)); exact HO_7.out)); (case aS => exact (below_size (by repeat (first | (with_reducible first | exact HB.out | apply below_alloc | apply pw_below_drewN | apply below_drew1) | exact HB.out)))); (case aL => have := LMc54.out; have hlx_ := (show (L43.drop 1).length = (L43.length - 1) from List.length_drop); omega); intro v272 w70 ho hb hg hat; rw [← Ny271.out] at ho; have n0_ := Aside0.mk (Kd.S_after (ok := (fun _ => True)) (by (with_reducible repeat (first | apply Kd.S_alloc | apply Kd.S_drewN | apply Kd.S_drew)); exact Kd.S_mono HO_6.out (fun _ hk => ⟨trivial, hk⟩)) hg hat); have n1_ := Aside0.mk (hb); have n2_ := Aside0.mk (ho); clear HO_6; clear HB; clear HO_7; have HO_6 := n0_; have HB := n1_; have HO273 := n2_; clear n0_ n1_ n2_; clear ho hb hg hat; obtain ⟨Ao71, co71, eo71⟩ := Kd.R_slice HO273.out; subst eo71) | ((with_reducible refine gate_dst (N := 155) rfl ?_); refine Kd.R_lit (Kd.int .u8) _ 5 ?hg (N := 155) ?hd (xs := ([] : List Int)) (inner := []) (ok := fun _ => True) (okp := fun _ => True) ?hr ?hp (fun _ hk => hk) trivial (Below.refl _ _) (Nat.le_refl _) (by simp) ?_; (case hd => rfl); (case hg => rfl); (case hr => first | (go_simp; done) | (go_simp; rfl)); (case hp => exact (Reps.none _ _)); intro v275 w72 ho73 hb hg_ hnew_; clear hg_ hnew_; (first | rw [← Ny274.out] at ho73 | (simp only [Int.reduceToNat] at ho73; rw [← Ny274.out] at ho73)); have n0_ := Aside0.mk (Kd.S_elder' (by (with_reducible repeat (first | apply Kd.S_alloc | apply Kd.S_drewN | apply Kd.S_drew)); exact HO_6.out) (Kd.R_base ho73) hb); have n1_ := Aside0.mk (Kd.R_elder' (by (with_reducible repeat (first | apply Kd.R_alloc | apply Kd.R_drewN | apply Kd.R_drew)); exact HO273.out) (Kd.R_base ho73) hb); have n2_ := Aside0.mk (Kd.R_lower (Kd.R_new' ho73 (Kd.R_lt (by (with_reducible repeat (first | apply Kd.R_alloc | apply Kd.R_drewN | apply Kd.R_drew)); exact HO273.out))) (below_size (by repeat (first | (with_reducible first | exact HB.out | apply below_alloc | apply pw_below_drewN | apply below_drew1) | exact HB.out)))); have n3_ := Aside0.mk (below_step (by repeat (first | (with_reducible first | exact HB.out | apply below_alloc | apply pw_below_drewN | apply below_drew1) | exact HB.out)) hb); clear HO_6; clear HO273; clear HB; have HO_6 := n0_; have HO273 := n1_; have HO276 := n2_; have HB := n3_; clear n0_ n1_ n2_ n3_; clear hb ho73) | ((with_reducible refine gate_builtin (b := .append) (xs := #[.tmp 155, .tmp 156]) rfl ?_); at_builtin; refine Kd.R_append_rows (Kd.int .u8) (w0 := w) w.heap.size rfl (.tmp 155) (.tmp 156) 22 5 (.int .u8 0) 1 rfl Tryd.underlying22 info5 rfl (by decide) (by omega) v275 y274 y271 _ _ _ (fun k_ => some k_ ≠ (.slice Ao71 y271.length co71 : Value).ownBlock) (fun _ => False) rfl rfl ?aO ?aR (fun _ _ h => h) (fun _ h => h.elim) ?aF ?aB ?aS ?aL ?_; (case aR => repeat (first | exact (Kd.R_reads' HO273.out).2.2 | (with_reducible refine Kd.C_alloc ?_ _) | (with_reducible refine Kd.C_drewN ?_ _) | (with_reducible refine Kd.C_drew ?_))); (case aB => exact (by repeat (first | (with_reducible first | exact HB.out | apply below_alloc | apply pw_below_drewN | apply below_drew1) | exact HB.out))); (case aF => exact (fun k_ hk => Kd.fresh' (Kd.R_lt (by (with_reducible repeat (first | apply Kd.R_alloc | apply Kd.R_drewN | apply Kd.R_drew)); exact HO273.out)) k_ hk)); (case aO => exact (by (with_reducible repeat (first | apply Kd.R_alloc | apply Kd.R_drewN | apply Kd.R_drew)); exact Kd.R_mono HO276.out (fun _ hk => hk.2))); (case aS => exact (below_size (by repeat (first | (with_reducible first | exact HB.out | apply below_alloc | apply pw_below_drewN | apply below_drew1) | exact HB.out)))); (case aL => have := LMc67.out; omega); intro v278 w74 ho hb hg hat; rw [← Ny277.out] at ho; have n0_ := Aside0.mk (Kd.S_after (ok := (fun k_ => some k_ ≠ (.slice Ao71 y271.length co71 : Value).ownBlock)) (by (with_reducible repeat (first | apply Kd.S_alloc | apply Kd.S_drewN | apply Kd.S_drew)); exact Kd.S_mono HO_6.out (fun _ hk => ⟨hk.1.2, hk.2⟩)) hg hat); have n1_ := Aside0.mk (Kd.R_after (ok := (fun _ => True)) (by (with_reducible repeat (first | apply Kd.R_alloc | apply Kd.R_drewN | apply Kd.R_drew)); exact HO273.out) hg hat); have n2_ := Aside0.mk (hb); have n3_ := Aside0.mk (ho); clear HO_6; clear HO273; clear HB; clear HO276; have HO_6 := n0_; have HO273 := n1_; have HB := n2_; have HO279 := n3_; clear n0_ n1_ n2_ n3_; clear ho hb hg hat; obtain ⟨Ao75, co75, eo75⟩ := Kd.R_slice HO279.out; subst eo75) | ((with_reducible refine gate_builtin (b := .append) (xs := #[.tmp 154, .tmp 160]) rfl ?_); at_builtin; refine Kd.S_append k60 (w0 := w) w.heap.size rfl (.tmp 154) (.tmp 160) 55 60 (.agg #[(.slice none 0 0), (.int .i64 0)]) 32 rfl Tryd.underlying55 info60 rfl (by decide) (by omega) u6 x6_1 (⟨y277, wrap64 ((wrap64 (x9_1 + 7)) + (wrap64 ((wrap64 (rd l1 (ji24))) + (wrap64 ((wrap64 (rd l1 (ji27))) * 256)))))⟩ : S60) [.slice Ao75 y277.length co75, .int .i64 (wrap64 ((wrap64 (x9_1 + 7)) + (wrap64 ((wrap64 (rd l1 (ji24))) + (wrap64 ((wrap64 (rd l1 (ji27))) * 256))))))] (fun k_ => some k_ ≠ (.slice Ao71 y271.length co71 : Value).ownBlock) (fun k_ => some k_ = (.slice Ao75 y277.length co75 : Value).ownBlock) rfl rfl ?aP (fun k_ hk_ => ((Kd.R_mono (ok' := fun k_ => ((fun k_ => some k_ ≠ (.slice Ao71 y271.length co71 : Value).ownBlock)) k_ ∧ some k_ ≠ (u6 : Value).ownBlock) (Kd.R_apart' (HO279.out) (Kd.S_typed HO_6.out) (by decide)) (fun k_ hk => ⟨hk.1, hk.2⟩))).1 k_ hk_.symm) ?aF ?aO ?aB ?aS ?aL ?_; (case aP => exact k60_mkM _ _ _ (⟨y277, wrap64 ((wrap64 (x9_1 + 7)) + (wrap64 ((wrap64 (rd l1 (ji24))) + (wrap64 ((wrap64 (rd l1 (ji27))) * 256)))))⟩ : S60) (Kd.R_mono (Kd.R_tight rfl (Kd.R_mono (ok' := fun k_ => ((fun k_ => some k_ ≠ (.slice Ao71 y271.length co71 : Value).ownBlock)) k_ ∧ some k_ ≠ (u6 : Value).ownBlock) (Kd.R_apart' (HO279.out) (Kd.S_typed HO_6.out) (by decide)) (fun k_ hk => ⟨hk.1, hk.2⟩))) (fun _ h_ => h_))); (case aB => exact (by repeat (first | (with_reducible first | exact HB.out | apply below_alloc | apply pw_below_drewN | apply below_drew1) | exact HB.out))); (case aF => exact (fun k_ hk => Kd.fresh' (Kd.R_lt (by (with_reducible repeat (first | apply Kd.R_alloc | apply Kd.R_drewN | apply Kd.R_drew)); exact HO273.out)) k_ hk)); (case aO => exact (by (with_reducible repeat (first | apply Kd.S_alloc | apply Kd.S_drewN | apply Kd.S_drew)); exact Kd.S_mono HO_6.out (fun k_ hk => ⟨hk.1, fun e_ => hk.2 e_⟩))); (case aS => exact (below_size (by repeat (first | (with_reducible first | exact HB.out | apply below_alloc | apply pw_below_drewN | apply below_drew1) | exact HB.out)))); (case aL => have := LMc68.out; omega); intro v281 w76 ho hb hg hat; rw [← Ny280.out] at ho; have n0_ := Aside0.mk (Kd.R_over' (by (with_reducible repeat (first | apply Kd.R_alloc | apply Kd.R_drewN | apply Kd.R_drew)); exact HO273.out) (Kd.S_typed (by (with_reducible repeat (first | apply Kd.S_alloc | apply Kd.S_drewN | apply Kd.S_drew)); exact HO_6.out)) (by decide) hg); have n1_ := Aside0.mk (hb); have n2_ := Aside0.mk (ho); clear HO273; clear HB; clear HO_6; clear HO279; have HO273 := n0_; have HB := n1_; have HO282 := n2_; clear n0_ n1_ n2_; clear ho hb hg hat)); try go_wp2_with (first | ((with_reducible refine gate_builtin (b := .append) (xs := #[.tmp 134, .tmp 136]) rfl ?_); at_builtin; refine Kd.R_append_rows (Kd.int .u8) (w0 := w) w.heap.size rfl (.tmp 134) (.tmp 136) 22 5 (.int .u8 0) 1 rfl Tryd.underlying22 info5 rfl (by decide) (by omega) u7 x7_50 (L43.drop 1) _ _ _ (fun _ => True) (fun _ => False) rfl rfl ?aO ?aR (fun _ _ h => h) (fun _ h => h.elim) ?aF ?aB ?aS ?aL ?_; (case aR => first | (rw [← show (L43.drop 1).length = (L43.length - 1) from List.length_drop]; repeat (first | exact (Kd.C_below HR270.out HB.out) | (with_reducible refine Kd.C_alloc ?_ _) | (with_reducible refine Kd.C_drewN ?_ _) | (with_reducible refine Kd.C_drew ?_))) | (repeat (first | exact (Kd.C_below HR270.out HB.out) | (with_reducible refine Kd.C_alloc ?_ _) | (with_reducible refine Kd.C_drewN ?_ _) | (with_reducible refine Kd.C_drew ?_)))); (case aB => exact (by repeat (first | (with_reducible first | exact HB.out | apply below_alloc | apply pw_below_drewN | apply below_drew1) | exact HB.out))); (case aF => exact (fun _ _ => trivial)); (case aO => exact (by (with_reducible repeat (first | apply Kd.R_alloc | apply Kd.R_drewN | apply Kd.R_drew)); exact HO_7.out)); (case aS => exact (below_size (by repeat (first | (with_reducible first | exact HB.out | apply below_alloc | apply pw_below_drewN | apply below_drew1) | exact HB.out)))); (case aL => have := LMc54.out; have hlx_ := (show (L43.drop 1).length = (L43.length - 1) from List.length_drop); omega); intro v272 w70 ho hb hg hat; rw [← Ny271.out] at ho; have n0_ := Aside0.mk (Kd.S_after (ok := (fun _ => True)) (by (with_reducible repeat (first | apply Kd.S_alloc | apply Kd.S_drewN | apply Kd.S_drew)); exact Kd.S_mono HO_6.out (fun _ hk => ⟨trivial, hk⟩)) hg hat); have n1_ := Aside0.mk (hb); have n2_ := Aside0.mk (ho); clear HO_6; clear HB; clear HO_7; have HO_6 := n0_; have HB := n1_; have HO273 := n2_; clear n0_ n1_ n2_; clear ho hb hg hat; obtain ⟨Ao71, co71, eo71⟩ := Kd.R_slice HO273.out; subst eo71) | ((with_reducible refine gate_dst (N := 155) rfl ?_); refine Kd.R_lit (Kd.int .u8) _ 5 ?hg (N := 155) ?hd (xs := ([] : List Int)) (inner := []) (ok := fun _ => True) (okp := fun _ => True) ?hr ?hp (fun _ hk => hk) trivial (Below.refl _ _) (Nat.le_refl _) (by simp) ?_; (case hd => rfl); (case hg => rfl); (case hr => first | (go_simp; done) | (go_simp; rfl)); (case hp => exact (Reps.none _ _)); intro v275 w72 ho73 hb hg_ hnew_; clear hg_ hnew_; (first | rw [← Ny274.out] at ho73 | (simp only [Int.reduceToNat] at ho73; rw [← Ny274.out] at ho73)); have n0_ := Aside0.mk (Kd.S_elder' (by (with_reducible repeat (first | apply Kd.S_alloc | apply Kd.S_drewN | apply Kd.S_drew)); exact HO_6.out) (Kd.R_base ho73) hb); have n1_ := Aside0.mk (Kd.R_elder' (by (with_reducible repeat (first | apply Kd.R_alloc | apply Kd.R_drewN | apply Kd.R_drew)); exact HO273.out) (Kd.R_base ho73) hb); have n2_ := Aside0.mk (Kd.R_lower (Kd.R_new' ho73 (Kd.R_lt (by (with_reducible repeat (first | apply Kd.R_alloc | apply Kd.R_drewN | apply Kd.R_drew)); exact HO273.out))) (below_size (by repeat (first | (with_reducible first | exact HB.out | apply below_alloc | apply pw_below_drewN | apply below_drew1) | exact HB.out)))); have n3_ := Aside0.mk (below_step (by repeat (first | (with_reducible first | exact HB.out | apply below_alloc | apply pw_below_drewN | apply below_drew1) | exact HB.out)) hb); clear HO_6; clear HO273; clear HB; have HO_6 := n0_; have HO273 := n1_; have HO276 := n2_; have HB := n3_; clear n0_ n1_ n2_ n3_; clear hb ho73) | ((with_reducible refine gate_builtin (b := .append) (xs := #[.tmp 155, .tmp 156]) rfl ?_); at_builtin; refine Kd.R_append_rows (Kd.int .u8) (w0 := w) w.heap.size rfl (.tmp 155) (.tmp 156) 22 5 (.int .u8 0) 1 rfl Tryd.underlying22 info5 rfl (by decide) (by omega) v275 y274 y271 _ _ _ (fun k_ => some k_ ≠ (.slice Ao71 y271.length co71 : Value).ownBlock) (fun _ => False) rfl rfl ?aO ?aR (fun _ _ h => h) (fun _ h => h.elim) ?aF ?aB ?aS ?aL ?_; (case aR => repeat (first | exact (Kd.R_reads' HO273.out).2.2 | (with_reducible refine Kd.C_alloc ?_ _) | (with_reducible refine Kd.C_drewN ?_ _) | (with_reducible refine Kd.C_drew ?_))); (case aB => exact (by repeat (first | (with_reducible first | exact HB.out | apply below_alloc | apply pw_below_drewN | apply below_drew1) | exact HB.out))); (case aF => exact (fun k_ hk => Kd.fresh' (Kd.R_lt (by (with_reducible repeat (first | apply Kd.R_alloc | apply Kd.R_drewN | apply Kd.R_drew)); exact HO273.out)) k_ hk)); (case aO => exact (by (with_reducible repeat (first | apply Kd.R_alloc | apply Kd.R_drewN | apply Kd.R_drew)); exact Kd.R_mono HO276.out (fun _ hk => hk.2))); (case aS => exact (below_size (by repeat (first | (with_reducible first | exact HB.out | apply below_alloc | apply pw_below_drewN | apply below_drew1) | exact HB.out)))); (case aL => have := LMc67.out; omega); intro v278 w74 ho hb hg hat; rw [← Ny277.out] at ho; have n0_ := Aside0.mk (Kd.S_after (ok := (fun k_ => some k_ ≠ (.slice Ao71 y271.length co71 : Value).ownBlock)) (by (with_reducible repeat (first | apply Kd.S_alloc | apply Kd.S_drewN | apply Kd.S_drew)); exact Kd.S_mono HO_6.out (fun _ hk => ⟨hk.1.2, hk.2⟩)) hg hat); have n1_ := Aside0.mk (Kd.R_after (ok := (fun _ => True)) (by (with_reducible repeat (first | apply Kd.R_alloc | apply Kd.R_drewN | apply Kd.R_drew)); exact HO273.out) hg hat); have n2_ := Aside0.mk (hb); have n3_ := Aside0.mk (ho); clear HO_6; clear HO273; clear HB; clear HO276; have HO_6 := n0_; have HO273 := n1_; have HB := n2_; have HO279 := n3_; clear n0_ n1_ n2_ n3_; clear ho hb hg hat; obtain ⟨Ao75, co75, eo75⟩ := Kd.R_slice HO279.out; subst eo75) | ((with_reducible refine gate_builtin (b := .append) (xs := #[.tmp 154, .tmp 160]) rfl ?_); at_builtin; refine Kd.S_append k60 (w0 := w) w.heap.size rfl (.tmp 154) (.tmp 160) 55 60 (.agg #[(.slice none 0 0), (.int .i64 0)]) 32 rfl Tryd.underlying55 info60 rfl (by decide) (by omega) u6 x6_1 (⟨y277, wrap64 ((wrap64 (x9_1 + 7)) + (wrap64 ((wrap64 (rd l1 (ji24))) + (wrap64 ((wrap64 (rd l1 (ji27))) * 256)))))⟩ : S60) [.slice Ao75 y277.length co75, .int .i64 (wrap64 ((wrap64 (x9_1 + 7)) + (wrap64 ((wrap64 (rd l1 (ji24))) + (wrap64 ((wrap64 (rd l1 (ji27))) * 256))))))] (fun k_ => some k_ ≠ (.slice Ao71 y271.length co71 : Value).ownBlock) (fun k_ => some k_ = (.slice Ao75 y277.length co75 : Value).ownBlock) rfl rfl ?aP (fun k_ hk_ => ((Kd.R_mono (ok' := fun k_ => ((fun k_ => some k_ ≠ (.slice Ao71 y271.length co71 : Value).ownBlock)) k_ ∧ some k_ ≠ (u6 : Value).ownBlock) (Kd.R_apart' (HO279.out) (Kd.S_typed HO_6.out) (by decide)) (fun k_ hk => ⟨hk.1, hk.2⟩))).1 k_ hk_.symm) ?aF ?aO ?aB ?aS ?aL ?_; (case aP => exact k60_mkM _ _ _ (⟨y277, wrap64 ((wrap64 (x9_1 + 7)) + (wrap64 ((wrap64 (rd l1 (ji24))) + (wrap64 ((wrap64 (rd l1 (ji27))) * 256)))))⟩ : S60) (Kd.R_mono (Kd.R_tight rfl (Kd.R_mono (ok' := fun k_ => ((fun k_ => some k_ ≠ (.slice Ao71 y271.length co71 : Value).ownBlock)) k_ ∧ some k_ ≠ (u6 : Value).ownBlock) (Kd.R_apart' (HO279.out) (Kd.S_typed HO_6.out) (by decide)) (fun k_ hk => ⟨hk.1, hk.2⟩))) (fun _ h_ => h_))); (case aB => exact (by repeat (first | (with_reducible first | exact HB.out | apply below_alloc | apply pw_below_drewN | apply below_drew1) | exact HB.out))); (case aF => exact (fun k_ hk => Kd.fresh' (Kd.R_lt (by (with_reducible repeat (first | apply Kd.R_alloc | apply Kd.R_drewN | apply Kd.R_drew)); exact HO273.out)) k_ hk)); (case aO => exact (by (with_reducible repeat (first | apply Kd.S_alloc | apply Kd.S_drewN | apply Kd.S_drew)); exact Kd.S_mono HO_6.out (fun k_ hk => ⟨hk.1, fun e_ => hk.2 e_⟩))); (case aS => exact (below_size (by repeat (first | (with_reducible first | exact HB.out | apply below_alloc | apply pw_below_drewN | apply below_drew1) | exact HB.out)))); (case aL => have := LMc68.out; omega); intro v281 w76 ho hb hg hat; rw [← Ny280.out] at ho; have n0_ := Aside0.mk (Kd.R_over' (by (with_reducible repeat (first | apply Kd.R_alloc | apply Kd.R_drewN | apply Kd.R_drew)); exact HO273.out) (Kd.S_typed (by (with_reducible repeat (first | apply Kd.S_alloc | apply Kd.S_drewN | apply Kd.S_drew)); exact HO_6.out)) (by decide) hg); have n1_ := Aside0.mk (hb); have n2_ := Aside0.mk (ho); clear HO273; clear HB; clear HO_6; clear HO279; have HO273 := n0_; have HB := n1_; have HO282 := n2_; clear n0_ n1_ n2_; clear ho hb hg hat)))
                                                                    go_roundg kj50
                                                                    case measure => have := HK1.out; have := HJ32.out; have := HJ41.out; have := HJ48.out; have := HJ50.out; omega
                                                                    case rel => exact ⟨(y280), (y271), (((wrap64 (rd l1 (ji30))) == 3)), (wrap64 ((wrap64 (x9_1 + 7)) + (wrap64 ((wrap64 (rd l1 (ji24))) + (wrap64 ((wrap64 (rd l1 (ji27))) * 256)))))), (by first | rfl | (simp; done) | (simp only [← hji30] <;> (first | rfl | simp)) | (simp [*]; done)), (by first | rfl | (simp; done) | (simp only [← hji24, ← hji27] <;> (first | rfl | simp)) | (simp [*]; done)), H', ⟨by have := HK1.out; have := HJ32.out; have := HJ41.out; have := HJ48.out; have := HJ50.out; omega⟩, ⟨by (with_reducible repeat (first | apply Kd.S_alloc | apply Kd.S_drewN | apply Kd.S_drew)); exact HO282.out⟩, ⟨by (with_reducible repeat (first | apply Kd.R_alloc | apply Kd.R_drewN | apply Kd.R_drew)); exact Kd.R_mono HO273.out (fun _ hk => trivial)⟩, ⟨by repeat (first | (with_reducible first | exact HB.out | apply below_alloc | apply pw_below_drewN | apply below_drew1) | exact HB.out)⟩⟩
                                                                  · rw [if_neg c68] at H
                                                                    exact absurd H (by simp)
                                                                · rw [if_neg c67] at H
                                                                  exact absurd H (by simp)
                                                        · rw [if_neg c54] at H
                                                          exact absurd H (by simp)
                                                      · rw [if_neg c53] at H
                                                        exact absurd H (by simp)
                                      · rw [if_neg c41] at H
                                        exact absurd H (by simp)
                                    · rw [if_neg c40] at H
                                      exact absurd H (by simp)
                                  · rw [if_neg c39] at H
                                    exact absurd H (by simp)
                        · rw [if_neg c32] at H
                          exact absurd H (by simp)
                      · rw [if_neg c31] at H
                        exact absurd H (by simp)
                    · rw [if_neg c29] at H
                      exact absurd H (by simp)
                  · rw [if_neg c28] at H
                    exact absurd H (by simp)
                · rw [if_neg c26] at H
                  exact absurd H (by simp)
              · rw [if_neg c25] at H
                exact absurd H (by simp)

end Go.Proofs.YtmpkigambfghgaaDoor.G

/- Contracts typed by hand: journal: the document's reading tells what Reads says -/
namespace Go.Proofs.YtmpkigambfghgaaDoor.G
open Go.RowKit Go.Proofs.YtmpkigambfghgaaDoorW.PrintWords Go.Proofs.YtmpkigambfghgaaDoorW.PrintLast Go.Proofs.YtmpkigambfghgaaDoorW.PrintMore
attribute [local go_sem] max2_int min2_int max_two min_two max_three min_three max_four min_four
set_option linter.unusedVariables false
set_option linter.unusedSimpArgs false

/-! journal: the document's reading tells what Reads says -/
abbrev Rec07 := S60
def recS (x : Nat × List Int) : Rec07 := ⟨x.2, (x.1 : Int)⟩
theorem noughts_loop (l : List Int) (hl : l.length ≤ 1099511627776) : ∀ (d i k : Nat), i + d = l.length → d + 1 ≤ k → ∃ b, moraineref07_noughts.l0 k l (i : Int) = some b ∧ (b = true ↔ ∀ j, i ≤ j → j < l.length → rd l (j : Int) = 0)
  | 0, i, k, hi, hk => by
    obtain ⟨k, rfl⟩ : ∃ m, k = m + 1 := ⟨k - 1, by omega⟩
    refine ⟨true, by rw [moraineref07_noughts.l0, if_neg (by omega)], ?_⟩
    constructor
    · intro _ j h1 h2; omega
    · intro _; rfl
  | d + 1, i, k, hi, hk => by
    obtain ⟨k, rfl⟩ : ∃ m, k = m + 1 := ⟨k - 1, by omega⟩
    have e : wrap64 ((i : Int) + 1) = ((i + 1 : Nat) : Int) := (wr _ (by omega) (by omega)).trans (by omega)
    rw [moraineref07_noughts.l0, if_pos (by omega), if_pos (by omega)]
    by_cases h0 : rd l (i : Int) = 0
    · rw [if_pos h0, e]
      obtain ⟨b, hb, hb2⟩ := noughts_loop l hl d (i + 1) k (by omega) (by omega)
      refine ⟨b, hb, hb2.trans ?_⟩
      constructor
      · intro h j h1 h2
        by_cases hj : j = i
        · rw [hj]; exact h0
        · exact h j (by omega) h2
      · intro h j h1 h2
        exact h j (by omega) h2
    · rw [if_neg h0]
      refine ⟨false, rfl, ?_⟩
      constructor
      · intro h; cases h
      · intro h; exact absurd (h i (Nat.le_refl _) (by omega)) h0
theorem noughts_cut (f : List Int) (hb : Byt f) (p e k : Nat) (hpe : p ≤ e) (he : e ≤ f.length) (hl : f.length ≤ 1099511627776) (hk : f.length + 1 ≤ k) : ∃ b, moraineref07_noughts.f k ((f.take e).drop p) = some b ∧ (b = true ↔ ∀ i, p ≤ i → i < e → rdn f i = 0) := by
  have hlen : ((f.take e).drop p).length = e - p := by rw [List.length_drop, List.length_take]; omega
  obtain ⟨b, h1, h2⟩ := noughts_loop ((f.take e).drop p) (by omega) (e - p) 0 k (by omega) (by omega)
  have key : ∀ j, j < e - p → rd ((f.take e).drop p) (j : Int) = ((rdn f (p + j) : Nat) : Int) := by
    intro j hj
    rw [← (rdn_int f (p + j) hb).1]
    unfold rd
    rw [Int.toNat_natCast, Int.toNat_natCast, List.getD_eq_getElem?_getD, List.getD_eq_getElem?_getD, List.getElem?_drop, List.getElem?_take, if_pos (by omega)]
  refine ⟨b, h1, h2.trans ?_⟩
  rw [hlen]
  constructor
  · intro h i hi1 hi2
    have := h (i - p) (Nat.zero_le _) (by omega)
    rw [key (i - p) (by omega), show p + (i - p) = i by omega] at this
    omega
  · intro h j _ hj
    rw [key j hj, h (p + j) (by omega) (by omega)]
    rfl
theorem readfixed4 (f : List Int) (hb : Byt f) (p k : Nat) (hp : p + 4 ≤ f.length) (hl : f.length ≤ 1099511627776) (hk : 7 ≤ k) : moraineref01_ReadFixed.f k f (p : Int) 4 = some (((le4N f p : Nat) : Int), ((p + 4 : Nat) : Int), 0) := by
  obtain ⟨k, rfl⟩ : ∃ m, k = m + 7 := ⟨k - 7, by omega⟩
  unfold moraineref01_ReadFixed.f
  rw [if_neg (by omega), decide_eq_false (by omega)]
  have b0 := (rdn_int f p hb)
  have b1 := (rdn_int f (p + 1) hb)
  have b2 := (rdn_int f (p + 2) hb)
  have b3 := (rdn_int f (p + 3) hb)
  rw [moraineref01_ReadFixed.j0, if_neg Bool.false_ne_true, if_neg (by rw [wr _ (by omega) (by omega)]; omega), wr (4 - 1) (by omega) (by omega)]
  have step : ∀ (k i v : Nat), i < 4 → v < 16777216 → moraineref01_ReadFixed.l0 (k + 1) f (p : Int) 4 (v : Int) (i : Int) = moraineref01_ReadFixed.l0 k f (p : Int) 4 ((256 * v + rdn f (p + i) : Nat) : Int) ((i : Int) - 1) := by
    intro k i v hi hv
    have e1 := Aside0.mk (show wrap64 ((p : Int) + (i : Int)) = ((p + i : Nat) : Int) from (wr _ (by omega) (by omega)).trans (by omega))
    have hr := rdn_int f (p + i) hb
    rw [moraineref01_ReadFixed.l0, if_pos (by omega), e1.out, if_pos (by omega), if_pos (by omega), hr.1, wr ((i : Int) - 1) (by omega) (by omega)]
    have e2 : IntKind.u64.wrap (((rdn f (p + i) : Nat) : Int)) = ((rdn f (p + i) : Nat) : Int) := by rw [Go.IntKind.wrap_u64]; omega
    have e3 : IntKind.u64.wrap ((v : Int) * 256) = ((256 * v : Nat) : Int) := by rw [Go.IntKind.wrap_u64]; omega
    have e4 : IntKind.u64.wrap (((256 * v : Nat) : Int) + ((rdn f (p + i) : Nat) : Int)) = ((256 * v + rdn f (p + i) : Nat) : Int) := by rw [Go.IntKind.wrap_u64]; omega
    rw [e2, e3, e4]
  have s3 := step (k + 4 + 1) 3 0 (by omega) (by omega)
  have s2 := step (k + 4) 2 (256 * 0 + rdn f (p + 3)) (by omega) (by omega)
  have s1 := step (k + 3) 1 (256 * (256 * 0 + rdn f (p + 3)) + rdn f (p + 2)) (by omega) (by omega)
  have s0 := step (k + 2) 0 (256 * (256 * (256 * 0 + rdn f (p + 3)) + rdn f (p + 2)) + rdn f (p + 1)) (by omega) (by omega)
  have e3 : ((3 : Nat) : Int) = 3 - 0 := rfl
  refine (show moraineref01_ReadFixed.l0 (k + 6) f (p : Int) 4 0 (4 - 1) = _ from s3).trans ?_
  refine (show moraineref01_ReadFixed.l0 (k + 5) f (p : Int) 4 _ (((3 : Nat) : Int) - 1) = _ from s2).trans ?_
  refine (show moraineref01_ReadFixed.l0 (k + 4) f (p : Int) 4 _ (((2 : Nat) : Int) - 1) = _ from s1).trans ?_
  refine (show moraineref01_ReadFixed.l0 (k + 3) f (p : Int) 4 _ (((1 : Nat) : Int) - 1) = _ from s0).trans ?_
  rw [show k + 2 = (k + 1) + 1 from rfl, moraineref01_ReadFixed.l0, if_neg (by omega), wr ((p : Int) + 4) (by omega) (by omega)]
  have ev : 256 * (256 * (256 * (256 * 0 + rdn f (p + 3)) + rdn f (p + 2)) + rdn f (p + 1)) + rdn f (p + 0) = le4N f p := by
    unfold le4N
    rw [Nat.add_zero p]
    omega
  rw [ev]
  rfl
theorem body_cut (f : List Int) (p n : Nat) (h : p + 7 + n ≤ f.length) (hb : Byt f) (hn : n = nN f p) : (f.take (p + 7 + n)).drop (p + 6) = ((rdn f (p + 6) : Nat) : Int) :: dataN f p := by
  have hp : p + 6 < f.length := by omega
  have e1 : (f.take (p + 7 + n)).drop (p + 6) = (f.drop (p + 6)).take (n + 1) := by
    rw [List.drop_take, show p + 7 + n - (p + 6) = n + 1 by omega]
  rw [e1, List.drop_eq_getElem_cons hp, List.take_succ_cons]
  unfold dataN
  rw [hn, show p + 6 + 1 = p + 7 by omega]
  congr 1
  rw [← (rdn_int f (p + 6) hb).1, rd_at f (p + 6) hp]
theorem first_not (f : List Int) (p : Nat) : ∀ m, (¬ ∀ i, p ≤ i → i < p + m → rdn f i = 0) → ∃ i, p ≤ i ∧ i < p + m ∧ rdn f i ≠ 0 ∧ ∀ j, p ≤ j → j < i → rdn f j = 0
  | 0, h => absurd (fun i h1 h2 => by omega) h
  | m + 1, h => by
    by_cases h0 : ∀ i, p ≤ i → i < p + m → rdn f i = 0
    · by_cases hm : rdn f (p + m) = 0
      · exact absurd (fun i h1 h2 => by
          by_cases hi : i = p + m
          · rw [hi]; exact hm
          · exact h0 i h1 (by omega)) h
      · exact ⟨p + m, by omega, by omega, hm, h0⟩
    · obtain ⟨i, a, b, c, e⟩ := first_not f p m h0
      exact ⟨i, a, by omega, c, e⟩
theorem refread_fin (blk : Nat) (f : List Int) (p : Nat) (d dr : List Int) (o : Bool) (acc : List Rec07) (hp : f.length ≤ p) : ∃ outs how, Reads blk f p d o outs how ∧ ∀ k, 1 ≤ k → moraineref07_Read.l0 k (blk : Int) f acc dr o (p : Int) = some (acc ++ outs.map recS, (how : Int)) := by
  refine ⟨[], _, Reads.fin p d o hp, fun k hk => ?_⟩
  obtain ⟨k, rfl⟩ : ∃ m, k = m + 1 := ⟨k - 1, by omega⟩
  rw [moraineref07_Read.l0, if_pos (by omega), List.map_nil, List.append_nil]
  cases o
  · rw [if_neg Bool.false_ne_true, if_neg Bool.false_ne_true]; rfl
  · rw [if_pos rfl, if_pos rfl]; rfl
theorem tmod_nat (a b : Nat) : Int.tmod (a : Int) (b : Int) = ((a % b : Nat) : Int) := rfl
set_option maxHeartbeats 4000000 in
theorem refread (blk : Nat) (h1 : 32 ≤ blk) (h2 : blk ≤ 32768) (f : List Int) (hb : Byt f) (hl : f.length ≤ 1073741824) : ∀ (n p : Nat) (d dr : List Int) (o : Bool) (acc : List Rec07), f.length ≤ p + n → p ≤ f.length → d.length ≤ p → acc.length ≤ p → (o = true → dr = d) → (o = false → d = []) →
    ∃ outs how, Reads blk f p d o outs how ∧ ∀ k, 5 * n + 10 * f.length + 100 ≤ k → moraineref07_Read.l0 k (blk : Int) f acc dr o (p : Int) = some (acc ++ outs.map recS, (how : Int))
  | 0, p, d, dr, o, acc, hn, _, _, _, _, _ => by
    obtain ⟨outs, how, a, b⟩ := refread_fin blk f p d dr o acc (by omega)
    exact ⟨outs, how, a, fun k hk => b k (by omega)⟩
  | n + 1, p, d, dr, o, acc, hn, hp, hd, ha, ho1, ho0 => by
    by_cases hpe : f.length ≤ p
    · obtain ⟨outs, how, a, b⟩ := refread_fin blk f p d dr o acc hpe
      exact ⟨outs, how, a, fun k hk => b k (by omega)⟩
    have hm : p % blk < blk := Nat.mod_lt _ (by omega)
    obtain ⟨left, hleft⟩ : ∃ x, blk - p % blk = x := ⟨_, rfl⟩
    have eL : Aside0 (wrap64 ((blk : Int) - Int.tmod (p : Int) (blk : Int)) = ((left : Nat) : Int)) := by
      constructor
      rw [tmod_nat, wr _ (by omega) (by omega)]; omega
    have eE : Aside0 (wrap64 ((p : Int) + ((left : Nat) : Int)) = ((p + left : Nat) : Int)) := ⟨(wr _ (by omega) (by omega)).trans (by omega)⟩
    by_cases hpad : left < 7
    · -- noughts to the block's end
      obtain ⟨e, he⟩ : ∃ x, min (p + left) f.length = x := ⟨_, rfl⟩
      have hpe2 : p < e := by omega
      have hel : e ≤ f.length := by omega
      have open0 : ∀ k b, moraineref07_noughts.f k ((f.take e).drop p) = some b → moraineref07_Read.l0 (k + 1) (blk : Int) f acc dr o (p : Int) = if b = true then moraineref07_Read.l0 k (blk : Int) f acc dr o ((e : Nat) : Int) else some (acc, 2) := by
        intro k b hk
        rw [moraineref07_Read.l0, if_neg (by omega), if_neg (by omega), eL.out, if_pos (by omega), eE.out]
        by_cases hc : f.length < p + left
        · have ee : e = f.length := by omega
          rw [ee] at hk
          rw [if_pos (by omega), if_pos (by omega), if_pos (by omega), if_pos (by omega), Int.toNat_natCast, Int.toNat_natCast, hk, Option.bind_some, ee]
        · have ee : e = p + left := by omega
          rw [ee] at hk
          rw [if_neg (by omega), if_pos (by omega), if_pos (by omega), if_pos (by omega), Int.toNat_natCast, Int.toNat_natCast, hk, Option.bind_some, ee]
      by_cases hz : ∀ i, p ≤ i → i < e → rdn f i = 0
      · obtain ⟨outs, how, a, b⟩ := refread blk h1 h2 f hb hl n e d dr o acc (by omega) hel (by omega) (by omega) ho1 ho0
        refine ⟨outs, how, Reads.pad p d o outs how (by omega) (by omega) (by rw [hleft, he]; exact hz) (by rw [hleft, he]; exact a), fun k hk => ?_⟩
        obtain ⟨k, rfl⟩ : ∃ m, k = m + 1 := ⟨k - 1, by omega⟩
        obtain ⟨b', hb1, hb2⟩ := noughts_cut f hb p e k (by omega) hel (by omega) (by omega)
        rw [open0 k b' hb1, if_pos (hb2.2 hz)]
        exact b k (by omega)
      · obtain ⟨i, q1, q2, q3, q4⟩ := first_not f p (e - p) (fun hh => hz (fun i a b => hh i a (by omega)))
        refine ⟨[], 2, Reads.padBent p d o i (by omega) (by omega) q1 (by rw [hleft, he]; omega) q3 q4, fun k hk => ?_⟩
        obtain ⟨k, rfl⟩ : ∃ m, k = m + 1 := ⟨k - 1, by omega⟩
        obtain ⟨b', hb1, hb2⟩ := noughts_cut f hb p e k (by omega) hel (by omega) (by omega)
        rw [open0 k b' hb1, if_neg (fun hh => hz (hb2.1 hh)), List.map_nil, List.append_nil]
        rfl
    by_cases hsh : f.length < p + 7
    · refine ⟨[], 1, Reads.short p d o (by omega) (by omega) hsh, fun k hk => ?_⟩
      obtain ⟨k, rfl⟩ : ∃ m, k = m + 1 := ⟨k - 1, by omega⟩
      rw [moraineref07_Read.l0, if_neg (by omega), if_neg (by omega), eL.out, if_neg (by omega), if_pos (by rw [wr _ (by omega) (by omega)]; omega), List.map_nil, List.append_nil]
      rfl
    -- a piece
    have b4 := rdn_int f (p + 4) hb
    have b5 := rdn_int f (p + 5) hb
    have b6 := rdn_int f (p + 6) hb
    have w4 : Aside0 (wrap64 ((p : Int) + 4) = ((p + 4 : Nat) : Int)) := ⟨(wr _ (by omega) (by omega)).trans (by omega)⟩
    have w5 : Aside0 (wrap64 ((p : Int) + 5) = ((p + 5 : Nat) : Int)) := ⟨(wr _ (by omega) (by omega)).trans (by omega)⟩
    have w6 : Aside0 (wrap64 ((p : Int) + 6) = ((p + 6 : Nat) : Int)) := ⟨(wr _ (by omega) (by omega)).trans (by omega)⟩
    have v4 : Aside0 (wrap64 ((rdn f (p + 4) : Nat) : Int) = ((rdn f (p + 4) : Nat) : Int)) := ⟨wr _ (by omega) (by omega)⟩
    have v5 : Aside0 (wrap64 (wrap64 ((rdn f (p + 5) : Nat) : Int) * 256) = ((256 * rdn f (p + 5) : Nat) : Int)) := by
      constructor
      rw [wr ((rdn f (p + 5) : Nat) : Int) (by omega) (by omega), wr _ (by omega) (by omega)]; omega
    have v6 : Aside0 (wrap64 ((rdn f (p + 6) : Nat) : Int) = ((rdn f (p + 6) : Nat) : Int)) := ⟨wr _ (by omega) (by omega)⟩
    have hnN : nN f p = rdn f (p + 4) + 256 * rdn f (p + 5) := rfl
    have vn : Aside0 (wrap64 (((rdn f (p + 4) : Nat) : Int) + ((256 * rdn f (p + 5) : Nat) : Int)) = ((nN f p : Nat) : Int)) := by
      constructor
      rw [wr _ (by omega) (by omega), hnN]; omega
    have hnlt : nN f p < 65536 := by omega
    have wl : Aside0 (wrap64 (((left : Nat) : Int) - 7) = ((left - 7 : Nat) : Int)) := ⟨(wr _ (by omega) (by omega)).trans (by omega)⟩
    obtain ⟨kind, hkind⟩ : ∃ x, rdn f (p + 6) = x := ⟨_, rfl⟩
    rw [hkind] at b6 v6
    obtain ⟨m, hmm⟩ : ∃ x, nN f p = x := ⟨_, rfl⟩
    rw [hmm] at vn hnlt hnN
    have open1 : ∀ k, 7 ≤ k → moraineref07_Read.l0 (k + 1) (blk : Int) f acc dr o (p : Int) = moraineref07_Read.j1 k (blk : Int) f acc dr o (p : Int) ((le4N f p : Nat) : Int) ((m : Nat) : Int) ((kind : Nat) : Int) (decide (kind < 1 ∨ 4 < kind ∨ left - 7 < m)) := by
      intro k hk
      rw [moraineref07_Read.l0, if_neg (by omega), if_neg (by omega), eL.out, if_neg (by omega), if_neg (by rw [wr _ (by omega) (by omega)]; omega), readfixed4 f hb p k (by omega) (by omega) hk, Option.bind_some, w4.out, w5.out, w6.out, if_pos (by omega), if_pos (by omega), if_pos (by omega), if_pos (by omega), if_pos (by omega), if_pos (by omega), b4.1, b5.1, b6.1, v4.out, v5.out, v6.out, vn.out, wl.out]
      by_cases k1 : kind < 1
      · rw [if_pos (by omega), decide_eq_true (Or.inl k1)]
      rw [if_neg (by omega)]
      by_cases k4 : 4 < kind
      · rw [if_pos (by omega), decide_eq_true (Or.inr (Or.inl k4))]
      rw [if_neg (by omega)]
      congr 1
      by_cases kl : left - 7 < m
      · rw [decide_eq_true (Or.inr (Or.inr kl)), decide_eq_true (by omega)]
      · rw [decide_eq_false (by omega), decide_eq_false (by omega)]
    by_cases hbad : kind < 1 ∨ 4 < kind ∨ left - 7 < m
    · refine ⟨[], 2, Reads.none p d o (by omega) (by omega) (by rw [hkind, hmm, hleft]; exact hbad), fun k hk => ?_⟩
      obtain ⟨k, rfl⟩ : ∃ m, k = m + 2 := ⟨k - 2, by omega⟩
      rw [show k + 2 = (k + 1) + 1 from rfl, open1 (k + 1) (by omega), decide_eq_true hbad, moraineref07_Read.j1, if_pos rfl, List.map_nil, List.append_nil]
      rfl
    have hw0 : Aside0 (wrap64 (wrap64 ((f.length : Int) - (p : Int)) - 7) = ((f.length - p - 7 : Nat) : Int)) := by
      constructor
      rw [wr ((f.length : Int) - (p : Int)) (by omega) (by omega), wr _ (by omega) (by omega)]; omega
    by_cases htorn : f.length < p + 7 + m
    · refine ⟨[], 1, Reads.torn p d o (by omega) (by omega) (by omega) (by omega) (by omega) (by omega), fun k hk => ?_⟩
      obtain ⟨k, rfl⟩ : ∃ m, k = m + 2 := ⟨k - 2, by omega⟩
      rw [show k + 2 = (k + 1) + 1 from rfl, open1 (k + 1) (by omega), decide_eq_false hbad, moraineref07_Read.j1, if_neg Bool.false_ne_true, hw0.out, if_pos (by omega), List.map_nil, List.append_nil]
      rfl
    have w7 : Aside0 (wrap64 (wrap64 ((p : Int) + 7) + ((m : Nat) : Int)) = ((p + 7 + m : Nat) : Int)) := by
      constructor
      rw [wr ((p : Int) + 7) (by omega) (by omega), wr _ (by omega) (by omega)]; omega
    have hdl : (dataN f p).length = m := by
      unfold dataN
      rw [List.length_take, List.length_drop, hmm]; omega
    have hbd : Byt (dataN f p) := Byt.take (Byt.drop hb _) _
    have hcut := body_cut f p m (by omega) hb hmm.symm
    rw [hkind] at hcut
    have hs : le4N f p < 4294967296 := by
      have := rdn_int f p hb
      have := rdn_int f (p + 1) hb
      have := rdn_int f (p + 2) hb
      have := rdn_int f (p + 3) hb
      unfold le4N
      omega
    have es : (((le4N f p : Nat) : Int)) % 4294967296 = ((le4N f p : Nat) : Int) := by omega
    obtain ⟨B1, hB1⟩ : ∃ x : Bool, ((le4N f p != sumN ((kind : Nat) : Int) (dataN f p)) || ((decide (kind = 1) || decide (kind = 2)) == o)) = x := ⟨_, rfl⟩
    have open2 : ∀ k, 10 * f.length + 11 ≤ k → moraineref07_Read.j1 (k + 1) (blk : Int) f acc dr o (p : Int) ((le4N f p : Nat) : Int) ((m : Nat) : Int) ((kind : Nat) : Int) false = moraineref07_Read.j2 k (blk : Int) f acc dr (p : Int) ((m : Nat) : Int) ((kind : Nat) : Int) (((kind : Nat) : Int) :: dataN f p) B1 := by
      intro k hk
      rw [moraineref07_Read.j1, if_neg Bool.false_ne_true, hw0.out, if_neg (by omega), w6.out, w7.out, if_pos (by omega), if_pos (by omega), if_pos (by omega), Int.toNat_natCast, Int.toNat_natCast, hcut]
      refine (Option.bind_assoc _ _ _).symm.trans ?_
      rw [refsumOf_eq k ((kind : Nat) : Int) (dataN f p) (by omega) (by omega) hbd (by omega) (by omega), Option.bind_some, es]
      by_cases hsum : le4N f p = sumN ((kind : Nat) : Int) (dataN f p)
      · rw [if_pos (congrArg _ hsum)]
        have e1 : (le4N f p != sumN ((kind : Nat) : Int) (dataN f p)) = false := by rw [hsum]; simp
        rw [e1, Bool.false_or] at hB1
        by_cases k1 : kind = 1
        · rw [if_pos (by omega), ← hB1, decide_eq_true k1, Bool.true_or]
        · rw [if_neg (by omega), ← hB1, decide_eq_false k1, Bool.false_or]
          congr 2
          by_cases k2 : kind = 2
          · rw [decide_eq_true k2, k2]; rfl
          · rw [decide_eq_false k2]
            exact beq_eq_false_iff_ne.mpr (by omega)
      · rw [if_neg (by omega)]
        have e1 : (le4N f p != sumN ((kind : Nat) : Int) (dataN f p)) = true := by simp [hsum]
        rw [e1, Bool.true_or] at hB1
        rw [← hB1]
    have hbent : bentN f p d o = (B1 || decide (d.length + m > 2097152)) := by
      unfold bentN
      rw [hkind, hmm, hB1]
    cases hBv : B1
    rotate_left
    · rw [hBv] at open2 hbent
      refine ⟨[], 2, Reads.bent p d o (by omega) (by omega) (by omega) (by omega) (by omega) hbent, fun k hk => ?_⟩
      obtain ⟨k, rfl⟩ : ∃ m, k = m + 3 := ⟨k - 3, by omega⟩
      rw [show k + 3 = (k + 1 + 1) + 1 from rfl, open1 (k + 1 + 1) (by omega), decide_eq_false hbad, open2 (k + 1) (by omega), moraineref07_Read.j2, if_pos rfl, List.map_nil, List.append_nil]
      rfl
    rw [hBv] at open2 hbent hB1
    rw [Bool.or_eq_false_iff] at hB1
    have hdr : (if kind = 1 ∨ kind = 2 then ([] : List Int) else dr) = d := by
      have h3 := hB1.2
      by_cases k12 : kind = 1 ∨ kind = 2
      · rw [if_pos k12]
        have : (decide (kind = 1) || decide (kind = 2)) = true := by simpa using k12
        rw [this] at h3
        cases o
        · exact (ho0 rfl).symm
        · cases h3
      · rw [if_neg k12]
        have : (decide (kind = 1) || decide (kind = 2)) = false := by simpa using k12
        rw [this] at h3
        cases o
        · cases h3
        · exact ho1 rfl
    have open3 : ∀ k, moraineref07_Read.j2 (k + 2) (blk : Int) f acc dr (p : Int) ((m : Nat) : Int) ((kind : Nat) : Int) (((kind : Nat) : Int) :: dataN f p) false = moraineref07_Read.j4 k (blk : Int) f acc d (p : Int) ((m : Nat) : Int) ((kind : Nat) : Int) (((kind : Nat) : Int) :: dataN f p) := by
      intro k
      rw [show k + 2 = (k + 1) + 1 from rfl, moraineref07_Read.j2, if_neg Bool.false_ne_true]
      by_cases k1 : kind = 1
      · rw [if_pos (by omega), moraineref07_Read.j3, if_pos rfl, ← hdr, if_pos (Or.inl k1)]
      · rw [if_neg (by omega), moraineref07_Read.j3]
        by_cases k2 : kind = 2
        · rw [if_pos (by rw [k2]; rfl), ← hdr, if_pos (Or.inr k2)]
        · rw [if_neg (by simp; omega), ← hdr, if_neg (by omega)]
    have open4 : ∀ k, moraineref07_Read.j4 (k + 1) (blk : Int) f acc d (p : Int) ((m : Nat) : Int) ((kind : Nat) : Int) (((kind : Nat) : Int) :: dataN f p) = if d.length + m > 2097152 then some (acc, 2) else if kind = 2 ∨ kind = 3 then moraineref07_Read.l0 k (blk : Int) f acc (d ++ dataN f p) true ((p + 7 + m : Nat) : Int) else moraineref07_Read.l0 k (blk : Int) f (acc ++ [(⟨d ++ dataN f p, ((p + 7 + m : Nat) : Int)⟩ : Rec07)]) (d ++ dataN f p) false ((p + 7 + m : Nat) : Int) := by
      intro k
      have l1 : (d ++ dataN f p).length = d.length + m := by rw [List.length_append, hdl]
      rw [moraineref07_Read.j4, if_pos (by rw [List.length_cons]; omega), List.drop_succ_cons, List.drop_zero, if_pos (by rw [hdl]; omega), Option.bind_some, w7.out, l1]
      by_cases hbig : d.length + m > 2097152
      · rw [if_pos (by omega), if_pos hbig]
      rw [if_neg (by omega), if_neg hbig]
      by_cases k2 : kind = 2
      · rw [if_pos (by omega), if_pos (Or.inl k2)]
      rw [if_neg (by omega)]
      by_cases k3 : kind = 3
      · rw [if_pos (by omega), if_pos (Or.inr k3), k3]; rfl
      rw [if_neg (by omega), if_neg (by omega), Option.bind_some, List.length_nil, if_pos (by omega), if_pos (by omega), List.nil_append, show (((kind : Nat) : Int) == 3) = false from beq_eq_false_iff_ne.mpr (by omega)]
    have go5 : ∀ k, 10 * f.length + 20 ≤ k → moraineref07_Read.l0 (k + 5) (blk : Int) f acc dr o (p : Int) = if d.length + m > 2097152 then some (acc, 2) else if kind = 2 ∨ kind = 3 then moraineref07_Read.l0 k (blk : Int) f acc (d ++ dataN f p) true ((p + 7 + m : Nat) : Int) else moraineref07_Read.l0 k (blk : Int) f (acc ++ [(⟨d ++ dataN f p, ((p + 7 + m : Nat) : Int)⟩ : Rec07)]) (d ++ dataN f p) false ((p + 7 + m : Nat) : Int) := by
      intro k hk
      rw [show k + 5 = (k + 4) + 1 from rfl, open1 (k + 4) (by omega), decide_eq_false hbad, show k + 4 = (k + 3) + 1 from rfl, open2 (k + 3) (by omega), show k + 3 = (k + 1) + 2 from rfl, open3 (k + 1), open4 k]
    by_cases hbig : d.length + m > 2097152
    · refine ⟨[], 2, Reads.bent p d o (by omega) (by omega) (by omega) (by omega) (by omega) (by rw [hbent, decide_eq_true hbig]; rfl), fun k hk => ?_⟩
      obtain ⟨k, rfl⟩ : ∃ m, k = m + 5 := ⟨k - 5, by omega⟩
      rw [go5 k (by omega), if_pos hbig, List.map_nil, List.append_nil]
      rfl
    have hnb : bentN f p d o = false := by rw [hbent, decide_eq_false hbig]; rfl
    have ldd : (d ++ dataN f p).length = d.length + m := by rw [List.length_append, hdl]
    by_cases k23 : kind = 2 ∨ kind = 3
    · obtain ⟨outs, how, a, b⟩ := refread blk h1 h2 f hb hl n (p + 7 + m) (d ++ dataN f p) (d ++ dataN f p) true acc (by omega) (by omega) (by omega) (by omega) (fun _ => rfl) (fun hh => by cases hh)
      refine ⟨outs, how, Reads.more p d o outs how (by omega) (by omega) (by omega) hnb (by rw [hkind]; exact k23) (by rw [hmm]; exact a), fun k hk => ?_⟩
      obtain ⟨k, rfl⟩ : ∃ m, k = m + 5 := ⟨k - 5, by omega⟩
      rw [go5 k (by omega), if_neg hbig, if_pos k23]
      exact b k (by omega)
    · obtain ⟨outs, how, a, b⟩ := refread blk h1 h2 f hb hl n (p + 7 + m) [] (d ++ dataN f p) false (acc ++ [(⟨d ++ dataN f p, ((p + 7 + m : Nat) : Int)⟩ : Rec07)]) (by omega) (by omega) (Nat.zero_le _) (by rw [List.length_append]; simp; omega) (fun hh => by cases hh) (fun _ => rfl)
      refine ⟨(p + 7 + m, d ++ dataN f p) :: outs, how, ?_, fun k hk => ?_⟩
      · have := Reads.whole (blk := blk) (f := f) p d o outs how (by omega) (by omega) (by omega) hnb (by rw [hkind]; omega) (by rw [hmm]; exact a)
        rw [hmm] at this
        exact this
      obtain ⟨k, rfl⟩ : ∃ m, k = m + 5 := ⟨k - 5, by omega⟩
      rw [go5 k (by omega), if_neg hbig, if_neg k23, b k (by omega), List.append_assoc]
      rfl

end Go.Proofs.YtmpkigambfghgaaDoor.G

/- Contracts typed by hand: journal: what the rounds of the law JournalReads keep -/
namespace Go.Proofs.YtmpkigambfghgaaDoor.G
open Go.RowKit Go.Proofs.YtmpkigambfghgaaDoorW.PrintWords Go.Proofs.YtmpkigambfghgaaDoorW.PrintLast Go.Proofs.YtmpkigambfghgaaDoorW.PrintMore
attribute [local go_sem] max2_int min2_int max_two min_two max_three min_three max_four min_four
set_option linter.unusedVariables false
set_option linter.unusedSimpArgs false

/-! journal: what the rounds of the law JournalReads keep -/
open Go.Shelf
theorem range_st3b {α : Type} {n : Nat} {P : Program} {g : Operand} {ps : Array Tmp} {assign body : Code} {Q : Exit → Act → World → Prop} {a : Act} {w : World} (id : Nat) (h1 : 1 ≤ n)
    {gf : Nat} {lb : Array Value} (hg : a.eval g = .func (.func gf) #[] lb) (eg : ∀ args w, (callFunc gf args).run P w = .ok (.enter gf args) w)
    {encs : α → Array Value} {Ok : α → World → Prop} {Nx : α → Nat} {V : Nat → Prop} {S : List α → World → Prop} {Sp : List α → Prop} (hps : ∀ x, (encs x).size = ps.size) (hseq : SeqSt3 (n - 1) P gf lb encs Ok Nx V S Sp w)
    (I Ix : List α → World → Prop) (hI : OwnFrom w.heap.size I) (hIx : OwnFrom w.heap.size Ix) (hIM : ∀ s A B, I s A → Chg (fun k => k = w.heap.size + 2) A B → I s B) (hIxM : ∀ s A B, Ix s A → Chg (fun k => k = w.heap.size + 2) A B → Ix s B)
    (hOk : OwnFrom w.heap.size Ok) (hS : ∀ xs A l o, S xs A → w.heap.size ≤ l → S xs (A.putObj l o)) (h0 : I [] w) (a₁ : α → Act)
    (hassign : ∀ (l : Nat) (x : α) (A : World) (K : Act → World → Prop), K (a₁ x) A → assign.wpIn (Fence.wide.inRound l) (n - 1 - 1) P (Exit.then K (fun _ _ _ => False)) { tmps := (ps.zip (encs x)).foldl (fun t (p, v) => t.setIfInBounds p v) a.tmps, defers := [] } A)
    (hbody : ∀ (l : Nat) (pre : List α) (x : α) (A : World), w.heap.size ≤ l → w.heap.size + 3 ≤ A.heap.size → I pre A → w.heap.size + 3 ≤ Nx x → Ok x A → Sp (pre ++ [x]) → body.wpIn (Fence.wide.inRound l) (n - 1 - 1) P (postSt w.heap.size (Chg (fun k => V k ∨ w.heap.size + 3 ≤ k)) I (fun c xs W' => c = .exit id ∧ Ix xs W') (pre ++ [x]) A) (a₁ x) A)
    (hend : ∀ (D : Nat) (e : Exit) (A : World), (e = .normal ∨ e = .exit id) → w.heap.size ≤ D → ((∃ xs, S xs A ∧ I xs A) ∨ (∃ pre, Sp pre ∧ Ix pre A)) → A.heap[D]? = some (.deferred (some [])) → Q e { a with defers := { target := .collected D, args := #[] } :: a.defers } A) :
    (Code.rangeFunc g ps assign body).wpIn Fence.wide n P Q a w := by
  refine range_st3 h1 hg eg hps hseq I (fun c xs W' => c = .exit id ∧ Ix xs W') hI (fun c s X Y row hs hgr hr => ⟨hs.1, hIx s X Y row hs.2 hgr hr⟩) hIM (fun c s A B hs hc => ⟨hs.1, hIxM s A B hs.2 hc⟩) hOk hS h0 a₁ hassign hbody ?_ ?_
  · intro D xs A hD hS hi hk
    exact hend D .normal A (.inl rfl) hD (.inl ⟨xs, hS, hi⟩) hk
  · rintro D c pre A hD hSp ⟨rfl, hx⟩ hk
    exact wpIn_exit (hend D (.exit id) A (.inr rfl) hD (.inr ⟨pre, hSp, hx⟩) hk)
theorem both_ways {K : Act → World → Prop} {Q' : Exit → Act → World → Prop} {e : Exit} {a : Act} {X : World} {id : Nat} (he : e = .normal ∨ e = .exit id) (h : K a X) : Exit.inBlock id (Exit.then K Q') e a X := by
  rcases he with rfl | rfl
  · exact h
  · show (if id = id then K a X else Q' (.exit id) a X)
    rw [if_pos rfl]
    exact h
def jrI (Wv : World) (pre : List Yx) (X : World) : Prop := Boxed X Wv.heap.size 3 (.int .i64 (pre.length : Int)) ∧ Below Wv.heap.size Wv X
theorem jrI_own (Wv : World) (B : Nat) (hB : Wv.heap.size ≤ B) : OwnFrom B (jrI Wv) := by
  rintro pre X Y row ⟨h1, h2⟩ hg hr
  exact ⟨h1.kept hg (fun e => by
    obtain ⟨_, o, ho, hc⟩ := hr _ e.symm
    rw [show X.heap[Wv.heap.size]? = _ from h1] at ho
    cases ho
    cases hc), ownFrom_below (β := Unit) (Nat.le_refl _) hB () X Y row h2 hg hr⟩
theorem jrI_chg {Wv X Y : World} {N : Nat} {pre : List Yx} (h : jrI Wv pre X) (hN : Wv.heap.size < N + 2) (hc : Chg (fun k => k = N + 2) X Y) : jrI Wv pre Y :=
  ⟨(hc.block _ h.1.lt (fun e => by have e' : Wv.heap.size = N + 2 := e; omega)).trans h.1, below_chg h.2 hc (fun k e => by have e' : k = N + 2 := e; omega)⟩
theorem yx_at {pre : List Yx} {x : Yx} {outs : List (Nat × List Int)} (h : (pre ++ [x]).map outY <+: outs) : outs[pre.length]? = some (x.1, x.2.1) ∧ pre.length < outs.length ∧ rd_T60 (outs.map recS) (pre.length : Int) = ⟨x.2.1, (x.1 : Int)⟩ := by
  obtain ⟨t, ht⟩ := h
  have h1 : outs[pre.length]? = some (x.1, x.2.1) := by
    rw [← ht]
    simp [outY]
  refine ⟨h1, (List.getElem?_eq_some_iff.1 h1).1, ?_⟩
  unfold rd_T60
  rw [Int.toNat_natCast, List.getD_eq_getElem?_getD, List.getElem?_map, h1]
  rfl
theorem kept_keeps {X Z : World} {S : Nat → Prop} (N : Nat) (h : Kept X Z S) (hs : ∀ k, S k → ∃ cells t, X.heap[k]? = some (.cells cells t (0, 0))) : KeepsFrom N X Z := ⟨h.1, fun k o hk ho hc => (h.2 k (Array.getElem?_eq_some_iff.1 ho).1 (fun e => by
    obtain ⟨cells, t, he⟩ := hs k e
    rw [he] at ho
    cases ho
    cases hc)).trans ho⟩
/-- a round's body, done -/
theorem jr_after {Wv X w8 : World} {N N0 p cx : Nat} {pre : List Yx} {Ax : Option Addr} {d : List Int} (nq : Nat) (hI : jrI Wv pre X) (hok : Kd.R (Kd.int .u8) 5 X N (fun _ => True) (.slice Ax d.length cx) d) (hN : N0 + 3 ≤ N) (h0 : N0 = Wv.heap.size + 1) (hb8 : Below Wv.heap.size Wv w8) (hk8 : Kept (X.drewN nq) w8 (fun b => (Value.slice Ax d.length cx).ownBlock = some b)) (x : Yx) :
    Boxed w8 Wv.heap.size 3 (.int .i64 (pre.length : Int)) ∧
    (KeepsFrom N0 X (w8.setCell ⟨Wv.heap.size, 0, none⟩ (.int .i64 ((pre.length : Int) + 1))) ∧ Chg (fun k => k = Wv.heap.size ∨ N0 + 3 ≤ k) X (w8.setCell ⟨Wv.heap.size, 0, none⟩ (.int .i64 ((pre.length : Int) + 1))) ∧ jrI Wv (pre ++ [x]) (w8.setCell ⟨Wv.heap.size, 0, none⟩ (.int .i64 ((pre.length : Int) + 1)))) := by
  have hbase : ∀ b, (Value.slice Ax d.length cx).ownBlock = some b → N ≤ b := fun b hb => Kd.R_base hok b hb
  have hbx : Boxed w8 Wv.heap.size 3 (.int .i64 (pre.length : Int)) := (hk8.2 _ hI.1.lt (fun e => by have := hbase _ e; omega)).trans hI.1
  have kf1 : KeepsFrom N0 X w8 := kept_keeps N0 (show Kept X w8 _ from hk8) (fun k e => by obtain ⟨cells, hc⟩ := Kd.R_typed hok k e; exact ⟨cells, _, hc⟩)
  have c1 : Chg (fun k => k = Wv.heap.size ∨ N0 + 3 ≤ k) X w8 := ⟨hb8.os.trans hI.2.os.symm, hb8.tape.trans hI.2.tape.symm, hb8.output.trans hI.2.output.symm, hk8.1, fun k hk hn => hk8.2 k hk (fun e => hn (.inr (Nat.le_trans hN (hbase _ e))))⟩
  refine ⟨hbx, ?_, c1.trans (Chg.set _ _ _ _ _ (.inl rfl)), ?_, below_set hb8 (Nat.le_refl _)⟩
  · refine ⟨Nat.le_trans kf1.1 (Chg.set (fun k => k = Wv.heap.size) w8 Wv.heap.size 0 (.int .i64 ((pre.length : Int) + 1)) rfl).size, fun k o hk ho hc => ?_⟩
    exact (Below.heap_setCell _ _ _ k (fun e => by have e' : k = Wv.heap.size := e; omega)).trans (kf1.2 k o hk ho hc)
  · have h := Boxed.set (.int .i64 ((pre.length : Int) + 1)) hbx
    rw [show ((pre ++ [x]).length : Int) = (pre.length : Int) + 1 by simp]
    exact h

end Go.Proofs.YtmpkigambfghgaaDoor.G

/- Contracts typed by hand: a region that draws its order and only reads, in a round of a range over a function -/
namespace Go.Proofs.YtmpkigambfghgaaDoor.G
open Go.RowKit Go.Proofs.YtmpkigambfghgaaDoorW.PrintWords Go.Proofs.YtmpkigambfghgaaDoorW.PrintLast Go.Proofs.YtmpkigambfghgaaDoorW.PrintMore
attribute [local go_sem] max2_int min2_int max_two min_two max_three min_three max_four min_four
set_option linter.unusedVariables false
set_option linter.unusedSimpArgs false

/-! a region that draws its order and only reads, in a round of a range over a function -/
theorem op_round {F : Fence} {n : Nat} {P : Program} {o : Oper} {a : Act} {w : World} {next : Act → World → Prop} {Q : Exit → Act → World → Prop} (r : Nat) (hro : F.round = none) (hd : ∀ c, o.op ≠ .defer c)
    (h : o.wpIn F n P a w next Q) : o.wpIn (F.inRound r) n P a w next Q := by
  have h2 := h.2
  rw [hro] at h2
  refine ⟨h.1, ?_⟩
  have e : o.semAt (F.inRound r).round a.eval = o.semAt none a.eval := by
    show o.semAt (some r) a.eval = o.semAt none a.eval
    rw [Oper.semAt_some r _ _ hd]
    unfold Oper.semAt
    cases ho : o.op <;> first | rfl | exact absurd ho (hd _)
  rw [e]
  exact h2
theorem any_round {F : Fence} {n : Nat} {P : Program} {md : Region.Mode} {ops : Array Oper} {Q : Exit → Act → World → Prop} (r : Nat) (hro : F.round = none) (hd : ∀ (i : Nat) (o : Oper), ops[i]? = some o → ∀ c, o.op ≠ .defer c) :
    ∀ (fuel : Nat) (listed : Array Bool) (a : Act) (w : World), wpAnyIn F n P md ops Q fuel listed a w → wpAnyIn (F.inRound r) n P md ops Q fuel listed a w
  | 0, _, _, _, h => h
  | fuel + 1, listed, a, w, h => by
    refine ⟨h.1, fun i hi => ?_⟩
    have hx := h.2 i hi
    unfold wpOpIn at hx ⊢
    cases ho : ops[i]? with
    | none =>
      rw [ho] at hx
      exact any_round r hro hd fuel _ a w hx
    | some o =>
      rw [ho] at hx
      dsimp only at hx ⊢
      by_cases hw : Region.wanted o (yielded ops a.tmps) = true
      · rw [if_pos hw] at hx ⊢
        exact Oper.wpIn_mono (fun a w q => any_round r hro hd fuel _ a w q) (op_round r hro (hd i o ho) hx)
      · rw [if_neg hw] at hx ⊢
        exact ⟨hx.1, any_round r hro hd fuel _ _ w hx.2⟩
def plainOps (l : List Oper) : Bool := l.all fun o => match o.op with | .defer _ => false | _ => true
theorem plainOps_spec {l : List Oper} (h : plainOps l = true) (i : Nat) (o : Oper) (ho : l.toArray[i]? = some o) : ∀ c, o.op ≠ .defer c := by
  intro c hc
  have hm : o ∈ l := by
    rw [List.getElem?_toArray] at ho
    exact List.mem_of_getElem? ho
  have := List.all_eq_true.1 h o hm
  rw [hc] at this
  simp at this
theorem region_quiet_round {F : Fence} {n : Nat} {P : Program} {r id : Nat} {Q : Exit → Act → World → Prop} {a : Act} {w : World} {l : List Oper} (hro : F.round = none) (hm : P.follows .mixedOrders = true) (hB : Region.lexB .any l.toArray = true) (hd : plainOps l = true)
    (h : wpQuietIn F n P l.toArray (fun w' => ∃ n, w' = w.drewN n) (fun a' => ∀ w', (∃ n, w' = w.drewN n) → Q .normal a' w') l a) : (Code.region id l.toArray true).wpIn (F.inRound r) n P Q a w := by
  simp only [Region.lexB, Bool.and_eq_true] at hB
  refine wpIn_region_any hm (any_round r hro (plainOps_spec hd) _ _ _ _ (wpAnyIn_of_quiet (C := fun w' => ∃ n, w' = w.drewN n) (Q := fun a' => ∀ w', (∃ n, w' = w.drewN n) → Q .normal a' w') hro (fun _ w' hw' h => h w' hw') _ _ _ _ ⟨1, rfl⟩ ?_))
  have := wpAnyQIn_lex (F := F) (n := n) (C := fun w' => ∃ n, w' = w.drewN n) (md := .any) hB.1 l 0 (Array.replicate l.toArray.size false) a (by simp) (by simpa using hB.2) h
  simpa using this

end Go.Proofs.YtmpkigambfghgaaDoor.G

/- Printed by the session's program over the kit's print, out of the translation: functions as plain Lean functions, and the proofs that the calls come to them. -/
namespace Go.Proofs.YtmpkigambfghgaaDoor.G
open Go.RowKit Go.Proofs.YtmpkigambfghgaaDoorW.PrintWords Go.Proofs.YtmpkigambfghgaaDoorW.PrintLast Go.Proofs.YtmpkigambfghgaaDoorW.PrintMore
attribute [local go_sem] max2_int min2_int max_two min_two max_three min_three max_four min_four   -- for this text's walks alone
set_option linter.unusedVariables false
set_option linter.unusedSimpArgs false

/-! ### moraineref07_End: function 26 -/
def moraineref07_End.f (l0 : List (S60)) : Option (Int) := if (l0.length : Int) = 0 then (some 0) else (if 0 ≤ (wrap64 ((l0.length : Int) - 1)) then (if (wrap64 ((l0.length : Int) - 1)) < (l0.length : Int) then (some ((rd_T60 l0 (wrap64 ((l0.length : Int) - 1))).f1)) else (none)) else (none))
set_option maxHeartbeats 8000000 in
set_option maxRecDepth 100000 in
theorem moraineref07_End.calls (A0 : Option Addr) (c0 : Nat) (l0 : List (S60)) (r : Int) (w : World) (hr0 : Kd.C k60 w A0 l0.length l0) (hc0 : l0.length ≤ c0) (h : moraineref07_End.f l0 = some r) :
    Calls Tryd.prog 26 #[.slice A0 l0.length c0] w fun e w' => e = .returned (.int .i64 r) ∧ Drawn0 w w' := by
  have HR0 := Aside0.mk hr0
  have HC0 := Aside0.mk hc0
  clear hr0 hc0
  have H : (if (l0.length : Int) = 0 then (some 0) else (if 0 ≤ (wrap64 ((l0.length : Int) - 1)) then (if (wrap64 ((l0.length : Int) - 1)) < (l0.length : Int) then (some ((rd_T60 l0 (wrap64 ((l0.length : Int) - 1))).f1)) else (none)) else (none))) = some r := h
  clear h
  by_cases c2 : (l0.length : Int) = 0
  · rw [if_pos c2] at H
    have c2b0 : ((l0.length : Int) == 0) = true := beq_iff_eq.mpr c2
    have c2b1 : ((l0.length : Int) != 0) = false := bne_eq_false_iff_eq.mpr c2
    clear c2
    obtain rfl := Option.some.inj H
    go_enter Tryd.func26, Tryd.ntmps26
    go_wp2
    go_ret
    exact ⟨by first | rfl | (simp; done) | (simp [*]; done), by repeat (first | exact Drawn0.refl _ | apply Drawn0.step)⟩
  · rw [if_neg c2] at H
    have c2b0 : ((l0.length : Int) == 0) = false := beq_eq_false_iff_ne.mpr c2
    have c2b1 : ((l0.length : Int) != 0) = true := bne_iff_ne.mpr c2
    have c2b2 : ¬ (l0 = []) := fun h_ => c2 (by rw [h_]; rfl)
    obtain ⟨ji3, hji3⟩ : ∃ j_ : Int, (wrap64 ((l0.length : Int) - 1)) = j_ := ⟨_, rfl⟩
    replace H : (if 0 ≤ (ji3) then (if (ji3) < (l0.length : Int) then (some ((rd_T60 l0 (ji3)).f1)) else (none)) else (none)) = some r := by first | (rw [hji3] at H; exact H) | (simp only [hji3] at H ⊢; exact H)
    have hji3w : (IntKind.i64.wrap ((l0.length : Int) - 1)) = ji3 := (i64_w _).trans hji3
    by_cases c4 : 0 ≤ (ji3)
    · rw [if_pos c4] at H
      have c4b0 : decide (0 ≤ (ji3)) = true := decide_eq_true c4
      clear c4
      by_cases c5 : (ji3) < (l0.length : Int)
      · rw [if_pos c5] at H
        have c5b0 : decide ((ji3) < (l0.length : Int)) = true := decide_eq_true c5
        clear c5
        obtain rfl := Option.some.inj H
        have p283 : 0 ≤ ((ji3) : Int) := of_decide_eq_true (by first | (with_reducible assumption) | assumption)
        have q283 : (ji3) < (l0.length : Int) := of_decide_eq_true (by first | (with_reducible assumption) | assumption)
        obtain ⟨ad283, A283_0, c283_0, e283, hx283_0, hx283_1, hl283_0, hi283_0⟩ := at_T60 HR0.out (ji3) p283 q283
        cases e283
        have HR283_0 := Aside0.mk hi283_0
        have HC283_0 := Aside0.mk hl283_0
        clear hi283_0 hl283_0
        replace p283 := eq_true p283
        replace q283 := eq_true q283
        go_enter Tryd.func26, Tryd.ntmps26
        go_wp2
        go_ret
        exact ⟨by first | rfl | (simp; done) | (simp only [← hji3] <;> (first | rfl | simp)) | (simp [*]; done), by repeat (first | exact Drawn0.refl _ | apply Drawn0.step)⟩
      · rw [if_neg c5] at H
        exact absurd H (by simp)
    · rw [if_neg c4] at H
      exact absurd H (by simp)

end Go.Proofs.YtmpkigambfghgaaDoor.G

/- Printed by the session's program over the kit's print, out of the translation: functions as plain Lean functions, and the proofs that the calls come to them. -/
namespace Go.Proofs.YtmpkigambfghgaaDoor.G
open Go.RowKit Go.Proofs.YtmpkigambfghgaaDoorW.PrintWords Go.Proofs.YtmpkigambfghgaaDoorW.PrintLast Go.Proofs.YtmpkigambfghgaaDoorW.PrintMore
attribute [local go_sem] max2_int min2_int max_two min_two max_three min_three max_four min_four   -- for this text's walks alone
set_option linter.unusedVariables false
set_option linter.unusedSimpArgs false

/-! ### morainelaw07_spoil: function 17 -/
def morainelaw07_spoil.l0 : Nat → List Int → Int → Option (List Int)
  | 0, _, _ => none
  | k + 1, x0, x2 => if x2 < (x0.length : Int) then (if 0 ≤ x2 then (morainelaw07_spoil.l0 k (x0.set (x2 : Int).toNat (((rd x0 x2) + 1) % 256)) (wrap64 (x2 + 1))) else (none)) else (some x0)
def morainelaw07_spoil.f (k : Nat) (l0 : List Int) : Option (List Int) := morainelaw07_spoil.l0 k l0 0
theorem morainelaw07_spoil.mono_l : ∀ k, (∀ y0 y1, LeO (morainelaw07_spoil.l0 k y0 y1) (morainelaw07_spoil.l0 (k + 1) y0 y1))
  | 0 => fun _ _ r h => by simp [morainelaw07_spoil.l0] at h
  | k + 1 => by
    have ih0 := morainelaw07_spoil.mono_l k
    · intro y0 y1
      unfold morainelaw07_spoil.l0
      repeat' first
      | (with_reducible exact ih0 _ _)
      | (with_reducible exact LeO.refl _)
      | (with_reducible exact LeO.none _)
      | (with_reducible refine LeO.ite ?_ ?_)
      | (with_reducible refine LeO.bind ?_ (fun _ => ?_))
      | exact ih0 _ _
      | exact LeO.none _
      | refine LeO.ite ?_ ?_
      | refine LeO.bind ?_ (fun _ => ?_)
theorem morainelaw07_spoil.mono : ∀ a0 k, LeO (morainelaw07_spoil.f k a0) (morainelaw07_spoil.f (k + 1) a0) := by
  intro a0 k
  have ih0 := morainelaw07_spoil.mono_l k
  unfold morainelaw07_spoil.f
  repeat' first
      | (with_reducible exact ih0 _ _)
      | (with_reducible exact LeO.refl _)
      | (with_reducible exact LeO.none _)
      | (with_reducible refine LeO.ite ?_ ?_)
      | (with_reducible refine LeO.bind ?_ (fun _ => ?_))
      | exact ih0 _ _
      | exact LeO.none _
      | refine LeO.ite ?_ ?_
      | refine LeO.bind ?_ (fun _ => ?_)
set_option maxHeartbeats 8000000 in
set_option maxRecDepth 100000 in
theorem morainelaw07_spoil.calls (k : Nat) (P0_ : Nat → Prop) (u9000_ : Value) (l0 : List Int) (r : List Int) (w0 w : World) (hB : Below w0.heap.size w0 w) (ho0 : Kd.R (Kd.int .u8) 5 w w0.heap.size P0_ u9000_ l0) (h : morainelaw07_spoil.f k l0 = some r) :
    Calls Tryd.prog 17 #[u9000_] w fun e w' => e = .returned (.tuple #[]) ∧ Kd.R (Kd.int .u8) 5 w' w0.heap.size (fun k_ => (P0_ k_ ∨ w.heap.size ≤ k_)) u9000_ r ∧ Below w0.heap.size w0 w' ∧ Kept w w' (fun k_ => P0_ k_) := by
  have HO0 := Aside0.mk (show Kd.R (Kd.int .u8) 5 w w0.heap.size (fun k_ => (P0_ k_ ∨ w.heap.size ≤ k_)) u9000_ l0 from Kd.R_mono ho0 (fun k_ hk => (.inl hk)))
  have HK := Aside0.mk (Kept.refl w (fun k_ => P0_ k_))
  have HW0 := Aside0.mk hB.size
  have HB := Aside0.mk hB
  clear hB
  have H : (morainelaw07_spoil.l0 k l0 0) = some r := h
  clear h
  have H' := Aside0.mk H
  clear H
  go_enter Tryd.func17, Tryd.ntmps17
  go_wp2
  go_loopg [2] k (fun kq v2 w' => ∃ (x0_1 : List Int) (x2_1 : Int), v2 = .int .i64 x2_1 ∧ Aside0 (morainelaw07_spoil.l0 kq x0_1 x2_1 = some r) ∧ Aside0 (kq ≤ k) ∧ Aside0 (Kd.R (Kd.int .u8) 5 w' w0.heap.size (fun k_ => (P0_ k_ ∨ w.heap.size ≤ k_)) u9000_ x0_1) ∧ Aside0 (Kept w w' (fun k_ => P0_ k_)) ∧ Aside0 (Below w0.heap.size w0 w'))
  case atStart => exact ⟨(l0), (0), (by first | rfl | (simp; done) | (simp [*]; done)), H', ⟨Nat.le_refl _⟩, ⟨by (with_reducible repeat (first | apply Kd.R_alloc | apply Kd.R_drewN | apply Kd.R_drew)); exact HO0.out⟩, ⟨by repeat (first | (with_reducible first | exact HK.out | apply Kept.alloc | apply Kept.drewN | apply Kept.drew) | exact HK.out)⟩, ⟨by repeat (first | (with_reducible first | exact HB.out | apply below_alloc | apply pw_below_drewN | apply below_drew1) | exact HB.out)⟩⟩
  case round =>
    clear H'
    try clear c1
    obtain ⟨x0_1, x2_1, rfl, HA, HK1, HO_0, HK, HB⟩ := hrel
    cases gk with
    | zero => exact absurd HA.out (by simp [morainelaw07_spoil.l0])
    | succ k1 =>
      have H := HA.out
      clear HA
      simp only [morainelaw07_spoil.l0] at H
      by_cases c2 : x2_1 < (x0_1.length : Int)
      · rw [if_pos c2] at H
        have c2b0 : decide (x2_1 < (x0_1.length : Int)) = true := decide_eq_true c2
        clear c2
        by_cases c3 : 0 ≤ x2_1
        · rw [if_pos c3] at H
          have c3b0 : decide (0 ≤ x2_1) = true := decide_eq_true c3
          clear c3
          obtain ⟨y158, hy158⟩ : ∃ y_ : List Int, y_ = (x0_1.set (x2_1 : Int).toNat (((rd x0_1 x2_1) + 1) % 256)) := ⟨_, rfl⟩
          replace H : (morainelaw07_spoil.l0 k1 y158 (wrap64 (x2_1 + 1))) = some r := by first | (rw [hy158]; with_reducible exact H) | (have H2_ := (Option.bind_some _ _).symm.trans H; rw [hy158]; with_reducible exact H2_) | (have H2_ := (Option.bind_some _ _).symm.trans H; with_reducible exact H2_) | with_reducible exact H | (rw [hy158]; exact H) | exact H
          have Ny158 := Aside0.mk hy158
          clear hy158
          have H' := Aside0.mk H
          clear H
          obtain ⟨Ao5, co5, eo5⟩ := Kd.R_slice HO_0.out
          subst eo5
          have p157 : 0 ≤ (x2_1 : Int) := of_decide_eq_true (by first | (with_reducible assumption) | assumption)
          have q157 : x2_1 < (x0_1.length : Int) := of_decide_eq_true (by first | (with_reducible assumption) | assumption)
          obtain ⟨ad157, e157, hx157_0⟩ := Kd.at_int (Kd.R_reads' HO_0.out).2.2 x2_1 p157 q157
          cases e157
          replace p157 := eq_true p157
          replace q157 := eq_true q157
          have p4 : 0 ≤ (x2_1 : Int) := of_decide_eq_true (by first | (with_reducible assumption) | assumption)
          have q4 : (x2_1 : Int) < ((x0_1.length : Int) : Int) := of_decide_eq_true (by first | (with_reducible assumption) | assumption)
          obtain ⟨go4, co4, eo4, gb4, gl4, cl4, HG4⟩ := Kd.R_form HO_0.out (by omega)
          (first | cases eo4 | (injection eo4 with ea_ en_ ec_; (first | subst ea_ | (injection ea_ with ea_; subst ea_)); subst ec_; clear en_))
          have GB4 := Aside0.mk gb4
          have GG4 := Aside0.mk HG4
          clear gb4 gl4 HG4
          have HMgo4 := Aside0.mk (show (P0_ go4 ∨ w.heap.size ≤ go4) from (HO_0.out.1 _ rfl))
          (first | simp only [add_plain] at hx157_0 | skip)
          obtain ⟨hx4_0, hf4_0⟩ := Kd.R_celln 0 HO_0.out (x2_1 : Int) p4 q4
          replace p4 := eq_true p4
          replace q4 := eq_true q4
          have HP6 := Kd.R_putg HO_0.out (x2_1 : Int) (((rd x0_1 x2_1) + 1) % 256)
          go_wp2_with (first | ((with_reducible refine gate_store (t := 5) (p := 16) rfl ?_); refine store_event (t := 5) (p := 16) (v := ?vo_w7) (w1 := (wr.setCell ⟨go4, (x2_1 : Int).toNat, none⟩ (.int .u8 (((rd x0_1 x2_1) + 1) % 256)))) ?hg ?ho ?hn ?hr ?_; (case ho => rfl); (case hg => rfl); (case hn => rfl); (case hr => first | (go_simp; done) | (go_simp; rfl)); intro w7 hw; have hg : wr.grownBy w7 (some go4) := (by rw [hw]; exact HP6.2); have hp_ : Kd.R (Kd.int .u8) 5 w7 w0.heap.size (fun k_ => (P0_ k_ ∨ w.heap.size ≤ k_)) (.slice (some ⟨go4, 0, none⟩) x0_1.length co5) y158 := (by rw [hw, Ny158.out]; exact HP6.1); clear HP6; have n0_ := Aside0.mk (hp_); have n1_ := Aside0.mk ((by rw [hw]; exact below_set (HB.out) GB4.out : Below w0.heap.size w0 w7)); have n2_ := Aside0.mk (Kept.of_grown (S := (fun k_ => P0_ k_)) hg (by repeat (first | (with_reducible first | exact HK.out | apply Kept.alloc | apply Kept.drewN | apply Kept.drew) | exact HK.out)) (fun k_ e_ => (HO_0.out.1 k_ e_))); clear HO_0; clear HB; clear HK; have HO_0 := n0_; have HB := n1_; have HK := n2_; clear n0_ n1_ n2_; clear hg hw hp_))
          go_roundg k1
          case measure => have := HK1.out; omega
          case rel => exact ⟨(y158), (wrap64 (x2_1 + 1)), (by first | rfl | (simp; done) | (simp [*]; done)), H', ⟨by have := HK1.out; omega⟩, ⟨by (with_reducible repeat (first | apply Kd.R_alloc | apply Kd.R_drewN | apply Kd.R_drew)); exact HO_0.out⟩, ⟨by repeat (first | (with_reducible first | exact HK.out | apply Kept.alloc | apply Kept.drewN | apply Kept.drew) | exact HK.out)⟩, ⟨by repeat (first | (with_reducible first | exact HB.out | apply below_alloc | apply pw_below_drewN | apply below_drew1) | exact HB.out)⟩⟩
        · rw [if_neg c3] at H
          exact absurd H (by simp)
      · rw [if_neg c2] at H
        have c2b0 : decide (x2_1 < (x0_1.length : Int)) = false := decide_eq_false c2
        clear c2
        obtain rfl := Option.some.inj H
        obtain ⟨Ao8, co8, eo8⟩ := Kd.R_slice HO_0.out
        subst eo8
        go_wp2
        first | go_end0 | ((try simp only [Exit.inBlock, Exit.then]); refine bodyPost_ret (results_none rfl _ _ _) rfl ?_)
        exact ⟨by first | rfl | (simp [errW_none, errW_some] <;> rfl) | (simp [*, errW_none, errW_some] <;> rfl), by (with_reducible repeat (first | apply Kd.R_alloc | apply Kd.R_drewN | apply Kd.R_drew)); exact HO_0.out, by repeat (first | (with_reducible first | exact HB.out | apply below_alloc | apply pw_below_drewN | apply below_drew1) | exact HB.out), by repeat (first | (with_reducible first | exact HK.out | apply Kept.alloc | apply Kept.drewN | apply Kept.drew) | exact HK.out)⟩

end Go.Proofs.YtmpkigambfghgaaDoor.G
