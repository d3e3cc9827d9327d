/- Contracts of functions and plain laws, several texts of the session put together by its program. -/
import Derived.Test.YthkooncibfkepaaQ0
import Derived.Test.YthkooncibfkepaaQ1
import Derived.Test.YthkooncibfkepaaProg
import Derived.Below
import Derived.Deep.Draws
import Derived.Deep.AppendLies
import Derived.Maps.AppendAt
import Derived.OwnWalk
import Derived.Laws.BytesArg
import Derived.Laws.MakeOwn
import Derived.Laws.OwnMore
import Derived.Deep.OwnRows
import Derived.Tactics
import Derived.Lib.ConvBytes
import Derived.Laws.Slices
import Derived.WalkKit
import Derived.KernelRfl
import Derived.RowKit3
import Derived.Deep.LoopGhost
import Derived.Deep.QuietTactic
import Derived.BigQuiet
import Derived.WideLaws
import Derived.Deep.DeepCutAuto
import Derived.Deep.CutBlock
import Derived.Deep.RegionHeld3
import Derived.Laws.Rows
import Derived.Lib.AppendStr
import Derived.ArgAppend
import Derived.Laws.IdiomCopy
import Derived.OrdersHeld
import Derived.Laws.BitsLemmas
import Derived.RowKit
import Derived.Test.YthkooncibfkepaaWWords
import Derived.Test.YthkooncibfkepaaWLast
import Derived.Test.YthkooncibfkepaaWTab
import Derived.Test.YthkooncibfkepaaWFour
import Derived.Test.YthkooncibfkepaaWQPut
import Derived.Test.YthkooncibfkepaaWApart
import Derived.Test.YthkooncibfkepaaWArr
import Derived.Test.YthkooncibfkepaaWZeros
import Derived.Test.YthkooncibfkepaaWFoot
import Derived.Test.YthkooncibfkepaaWKept
import Derived.Test.YthkooncibfkepaaWShare
import Derived.Test.YthkooncibfkepaaWN
import Derived.Test.YthkooncibfkepaaWFootNe
import Derived.Test.YthkooncibfkepaaWAt
import Derived.Test.YthkooncibfkepaaWEqStruct
import Derived.Test.YthkooncibfkepaaWRepsOne
import Derived.Test.YthkooncibfkepaaWInv
import Derived.Test.YthkooncibfkepaaWInvWords
import Derived.Test.YthkooncibfkepaaWGuard
import Derived.Test.YthkooncibfkepaaWNEv
import Derived.Test.YthkooncibfkepaaWMore
import Derived.Test.YthkooncibfkepaaQ2
import Derived.Lib.QuoteBits

/- Printed by the session's program over the kit's print, out of the translation: functions as plain Lean functions, and the proofs that the calls come to them. -/
namespace Go.Proofs.Ythkooncibfkepaa.G
open Go.RowKit Go.Proofs.YthkooncibfkepaaW.PrintWords Go.Proofs.YthkooncibfkepaaW.PrintLast Go.Proofs.YthkooncibfkepaaW.PrintMore
attribute [local go_sem] max2_int min2_int max_two min_two max_three min_three max_four min_four   -- for this text's walks alone
set_option linter.unusedVariables false
set_option linter.unusedSimpArgs false

/-! ### moraineref04_number: function 64 -/
def moraineref04_number.l0 : Nat → List Int → Int → Int → Int → Option (Int)
  | 0, _, _, _, _ => none
  | k + 1, x0, x1, x7, x8 => if x8 ≥ 0 then (if 0 ≤ (wrap64 (x1 + x8)) then (if (wrap64 (x1 + x8)) < (x0.length : Int) then (moraineref04_number.l0 k x0 x1 (Go.bits .or .u64 (IntKind.u64.wrap (x7 * 256)) (IntKind.u64.wrap (rd x0 (wrap64 (x1 + x8))))) (wrap64 (x8 - 1))) else (none)) else (none)) else (some x7)
def moraineref04_number.f (k : Nat) (l0 : List Int) (a1 : Int) (a2 : Int) : Option (Int) := moraineref04_number.l0 k l0 a1 0 (wrap64 (a2 - 1))
theorem moraineref04_number.mono_l : ∀ k, (∀ y0 y1 y2 y3, LeO (moraineref04_number.l0 k y0 y1 y2 y3) (moraineref04_number.l0 (k + 1) y0 y1 y2 y3))
  | 0 => fun _ _ _ _ r h => by simp [moraineref04_number.l0] at h
  | k + 1 => by
    have ih0 := moraineref04_number.mono_l k
    · intro y0 y1 y2 y3
      unfold moraineref04_number.l0
      repeat' first
      | (with_reducible exact ih0 _ _ _ _)
      | (with_reducible exact LeO.refl _)
      | (with_reducible exact LeO.none _)
      | (with_reducible refine LeO.ite ?_ ?_)
      | (with_reducible refine LeO.bind ?_ (fun _ => ?_))
      | exact ih0 _ _ _ _
      | exact LeO.none _
      | refine LeO.ite ?_ ?_
      | refine LeO.bind ?_ (fun _ => ?_)
theorem moraineref04_number.mono : ∀ a0 a1 a2 k, LeO (moraineref04_number.f k a0 a1 a2) (moraineref04_number.f (k + 1) a0 a1 a2) := by
  intro a0 a1 a2 k
  have ih0 := moraineref04_number.mono_l k
  unfold moraineref04_number.f
  repeat' first
      | (with_reducible exact ih0 _ _ _ _)
      | (with_reducible exact LeO.refl _)
      | (with_reducible exact LeO.none _)
      | (with_reducible refine LeO.ite ?_ ?_)
      | (with_reducible refine LeO.bind ?_ (fun _ => ?_))
      | exact ih0 _ _ _ _
      | exact LeO.none _
      | refine LeO.ite ?_ ?_
      | refine LeO.bind ?_ (fun _ => ?_)
set_option maxHeartbeats 8000000 in
set_option maxRecDepth 100000 in
theorem moraineref04_number.calls (k : Nat) (A0 : Option Addr) (c0 : Nat) (l0 : List Int) (a1 : Int) (a2 : Int) (r : Int) (w : World) (hr0 : Kd.C (Kd.int .u8) w A0 l0.length l0) (hc0 : l0.length ≤ c0) (h : moraineref04_number.f k l0 a1 a2 = some r) :
    Calls Try.prog 64 #[.slice A0 l0.length c0, .int .i64 a1, .int .i64 a2] w fun e w' => e = .returned (.int .u64 r) ∧ Drawn0 w w' := by
  have HR0 := Aside0.mk hr0
  have HC0 := Aside0.mk hc0
  clear hr0 hc0
  have H : (moraineref04_number.l0 k l0 a1 0 (wrap64 (a2 - 1))) = some r := h
  clear h
  have H' := Aside0.mk H
  clear H
  go_enter Try.func64, Try.ntmps64
  go_wp2
  go_loopg [7, 8] k (fun kq v7 v8 w' => ∃ (x7_1 : Int) (x8_1 : Int), v7 = .int .u64 x7_1 ∧ v8 = .int .i64 x8_1 ∧ Aside0 (moraineref04_number.l0 kq l0 a1 x7_1 x8_1 = some r) ∧ Aside0 (kq ≤ k) ∧ Drawn0 w w')
  case atStart => exact ⟨(0), (wrap64 (a2 - 1)), (by first | rfl | (simp; done) | (simp [*]; done)), (by first | rfl | (simp; done) | (simp [*]; done)), H', ⟨Nat.le_refl _⟩, by repeat (first | exact Drawn0.refl _ | apply Drawn0.step)⟩
  case round =>
    clear H'
    try clear p2
    obtain ⟨x7_1, x8_1, rfl, rfl, HA, HK1, ⟨m1, rfl⟩⟩ := hrel
    cases gk with
    | zero => exact absurd HA.out (by simp [moraineref04_number.l0])
    | succ k1 =>
      have H := HA.out
      clear HA
      simp only [moraineref04_number.l0] at H
      by_cases c4 : x8_1 ≥ 0
      · rw [if_pos c4] at H
        have c4b0 : decide (0 ≤ x8_1) = true := decide_eq_true c4
        clear c4
        obtain ⟨ji5, hji5⟩ : ∃ j_ : Int, (wrap64 (a1 + x8_1)) = j_ := ⟨_, rfl⟩
        replace H : (if 0 ≤ (ji5) then (if (ji5) < (l0.length : Int) then (moraineref04_number.l0 k1 l0 a1 (Go.bits .or .u64 (IntKind.u64.wrap (x7_1 * 256)) (IntKind.u64.wrap (rd l0 (ji5)))) (wrap64 (x8_1 - 1))) else (none)) else (none)) = some r := by first | (rw [hji5] at H; exact H) | (simp only [hji5] at H ⊢; exact H)
        have hji5w : (IntKind.i64.wrap (a1 + x8_1)) = ji5 := (i64_w _).trans hji5
        by_cases c6 : 0 ≤ (ji5)
        · rw [if_pos c6] at H
          have c6b0 : decide (0 ≤ (ji5)) = true := decide_eq_true c6
          clear c6
          by_cases c7 : (ji5) < (l0.length : Int)
          · rw [if_pos c7] at H
            have c7b0 : decide ((ji5) < (l0.length : Int)) = true := decide_eq_true c7
            clear c7
            have H' := Aside0.mk H
            clear H
            have p227 : 0 ≤ ((ji5) : Int) := of_decide_eq_true (by first | (with_reducible assumption) | assumption)
            have q227 : (ji5) < (l0.length : Int) := of_decide_eq_true (by first | (with_reducible assumption) | assumption)
            obtain ⟨ad227, e227, hx227_0⟩ := Kd.at_int HR0.out (ji5) p227 q227
            cases e227
            replace p227 := eq_true p227
            replace q227 := eq_true q227
            go_wp2
            go_roundg k1
            case measure => have := HK1.out; omega
            case rel => exact ⟨(Go.bits .or .u64 (IntKind.u64.wrap (x7_1 * 256)) (IntKind.u64.wrap (rd l0 (ji5)))), (wrap64 (x8_1 - 1)), (by first | rfl | (simp; done) | (simp only [← hji5] <;> (first | rfl | simp)) | (simp [*]; done)), (by first | rfl | (simp; done) | (simp [*]; done)), H', ⟨by have := HK1.out; omega⟩, by repeat (first | exact Drawn0.refl _ | apply Drawn0.step)⟩
          · rw [if_neg c7] at H
            exact absurd H (by simp)
        · rw [if_neg c6] at H
          exact absurd H (by simp)
      · rw [if_neg c4] at H
        have c4b0 : decide (0 ≤ x8_1) = false := decide_eq_false c4
        clear c4
        obtain rfl := Option.some.inj H
        go_wp2
        go_ret
        exact ⟨by first | rfl | (simp; done) | (simp [*]; done), by repeat (first | exact Drawn0.refl _ | apply Drawn0.step)⟩

end Go.Proofs.Ythkooncibfkepaa.G

/- Printed by the session's program over the kit's print, out of the translation: functions as plain Lean functions, and the proofs that the calls come to them. -/
namespace Go.Proofs.Ythkooncibfkepaa.G
open Go.RowKit Go.Proofs.YthkooncibfkepaaW.PrintWords Go.Proofs.YthkooncibfkepaaW.PrintLast Go.Proofs.YthkooncibfkepaaW.PrintMore
attribute [local go_sem] max2_int min2_int max_two min_two max_three min_three max_four min_four   -- for this text's walks alone
set_option linter.unusedVariables false
set_option linter.unusedSimpArgs false

/-! ### moraineref04_Head: function 36 -/
def moraineref04_Head.f (k : Nat) (l0 : List Int) : Option (Int × Int × Int) := if (l0.length : Int) < 12 then (some (0, 0, 41)) else ((moraineref04_number.f k l0 0 8).bind fun t257 => ((moraineref04_number.f k l0 8 4).bind fun t258 => (some (t257, wrap64 (t258), 0))))
theorem moraineref04_Head.mono : ∀ a0 k, LeO (moraineref04_Head.f k a0) (moraineref04_Head.f (k + 1) a0) := by
  intro a0 k
  unfold moraineref04_Head.f
  repeat' first
      | (with_reducible exact moraineref04_number.mono _ _ _ _)
      | (with_reducible exact LeO.refl _)
      | (with_reducible exact LeO.none _)
      | (with_reducible refine LeO.ite ?_ ?_)
      | (with_reducible refine LeO.bind ?_ (fun _ => ?_))
      | exact moraineref04_number.mono _ _ _ _
      | exact LeO.none _
      | refine LeO.ite ?_ ?_
      | refine LeO.bind ?_ (fun _ => ?_)
set_option maxHeartbeats 8000000 in
set_option maxRecDepth 100000 in
theorem moraineref04_Head.calls (k : Nat) (A0 : Option Addr) (c0 : Nat) (l0 : List Int) (r1 : Int) (r2 : Int) (r3 : Int) (w : World) (hr0 : Kd.C (Kd.int .u8) w A0 l0.length l0) (hc0 : l0.length ≤ c0) (h : moraineref04_Head.f k l0 = some (r1, r2, r3)) :
    Calls Try.prog 36 #[.slice A0 l0.length c0] w fun e w' => e = .returned (.tuple #[.int .u64 r1, .int .i64 r2, .int .i64 r3]) ∧ Drawn0 w w' := by
  have HR0 := Aside0.mk hr0
  have HC0 := Aside0.mk hc0
  clear hr0 hc0
  have H : (if (l0.length : Int) < 12 then (some (0, 0, 41)) else ((moraineref04_number.f k l0 0 8).bind fun t257 => ((moraineref04_number.f k l0 8 4).bind fun t258 => (some (t257, wrap64 (t258), 0))))) = some (r1, r2, r3) := h
  clear h
  by_cases c2 : (l0.length : Int) < 12
  · rw [if_pos c2] at H
    have c2b0 : decide ((l0.length : Int) < 12) = true := decide_eq_true c2
    have c2b1 : decide (l0.length < 12) = true := decide_eq_true (by omega)
    clear c2
    simp only [Option.some.injEq, Prod.mk.injEq] at H
    obtain ⟨rfl, rfl, rfl⟩ := H
    go_enter Try.func36, Try.ntmps36
    go_wp2
    go_ret3
    exact ⟨by first | rfl | (simp; done) | (simp [*]; done), by repeat (first | exact Drawn0.refl _ | apply Drawn0.step)⟩
  · rw [if_neg c2] at H
    have c2b0 : decide ((l0.length : Int) < 12) = false := decide_eq_false c2
    have c2b1 : decide (l0.length < 12) = false := decide_eq_false (by omega)
    clear c2
    replace H := Option.bind_eq_some_iff.mp H
    obtain ⟨t257, A30, H⟩ := H
    replace H : ((moraineref04_number.f k l0 8 4).bind fun t258 => (some (t257, wrap64 (t258), 0))) = some (r1, r2, r3) := H
    have A3 := Aside0.mk A30
    clear A30
    replace H := Option.bind_eq_some_iff.mp H
    obtain ⟨t258, A40, H⟩ := H
    replace H : (some (t257, wrap64 (t258), 0)) = some (r1, r2, r3) := H
    have A4 := Aside0.mk A40
    clear A40
    simp only [Option.some.injEq, Prod.mk.injEq] at H
    obtain ⟨rfl, rfl, rfl⟩ := H
    go_enter Try.func36, Try.ntmps36
    go_wp2_with (first | ((with_reducible refine gate_callee (f := 64) rfl ?_); refine goesL_ (some 9) rfl rfl Try.func64 (by kernel_rfl) rfl #[.slice A0 l0.length c0, .int .i64 0, .int .i64 8] rfl (by (try simp only [List.map_toArray, List.map_cons, List.map_nil]); first | done | rfl | (simp only [List.length_drop, List.length_take]; rfl)) ?_; (with_reducible refine (moraineref04_number.calls k _ _ l0 0 8 t257 _ ?side1 ?side2 A3.out).mono ?_); (case side1 => repeat (first | exact HR0.out | (with_reducible refine Kd.C_alloc ?_ _) | (with_reducible refine Kd.C_drewN ?_ _) | (with_reducible refine Kd.C_drew ?_))); (case side2 => exact HC0.out); rintro e w' ⟨rfl, ⟨nd, rfl⟩⟩; refine ⟨_, rfl, ?_⟩) | ((with_reducible refine gate_callee (f := 64) rfl ?_); refine goesL_ (some 11) rfl rfl Try.func64 (by kernel_rfl) rfl #[.slice A0 l0.length c0, .int .i64 8, .int .i64 4] rfl (by (try simp only [List.map_toArray, List.map_cons, List.map_nil]); first | done | rfl | (simp only [List.length_drop, List.length_take]; rfl)) ?_; (with_reducible refine (moraineref04_number.calls k _ _ l0 8 4 t258 _ ?side1 ?side2 A4.out).mono ?_); (case side1 => repeat (first | exact HR0.out | (with_reducible refine Kd.C_alloc ?_ _) | (with_reducible refine Kd.C_drewN ?_ _) | (with_reducible refine Kd.C_drew ?_))); (case side2 => exact HC0.out); rintro e w' ⟨rfl, ⟨nd, rfl⟩⟩; refine ⟨_, rfl, ?_⟩))
    go_ret3
    exact ⟨by first | rfl | (simp; done) | (simp [*]; done), by repeat (first | exact Drawn0.refl _ | apply Drawn0.step)⟩

end Go.Proofs.Ythkooncibfkepaa.G

/- Printed by the session's program over the kit's print, out of the translation: functions as plain Lean functions, and the proofs that the calls come to them. -/
namespace Go.Proofs.Ythkooncibfkepaa.G
open Go.RowKit Go.Proofs.YthkooncibfkepaaW.PrintWords Go.Proofs.YthkooncibfkepaaW.PrintLast Go.Proofs.YthkooncibfkepaaW.PrintMore
attribute [local go_sem] max2_int min2_int max_two min_two max_three min_three max_four min_four   -- for this text's walks alone
set_option linter.unusedVariables false
set_option linter.unusedSimpArgs false

/-! ### moraineref04_read: function 79 -/
mutual
def moraineref04_read.l0 : Nat → List Int → Int → Int → Int → Int → Option (ByteArray × Int)
  | 0, _, _, _, _, _ => none
  | k + 1, x0, x1, x2, x8, x9 => if x1 ≥ (x0.length : Int) then (moraineref04_read.j1 k x0 x1 x2 x8 x9 true) else (moraineref04_read.j1 k x0 x1 x2 x8 x9 (decide (x9 > 21)))
def moraineref04_read.j1 : Nat → List Int → Int → Int → Int → Int → Bool → Option (ByteArray × Int)
  | 0, _, _, _, _, _, _ => none
  | k + 1, x0, x1, x2, x8, x9, x18 => if x18 = true then (some ((⟨#[]⟩ : ByteArray), (-1))) else (if 0 ≤ x1 then (if x1 < (x0.length : Int) then (if 0 ≤ x9 then (if (wrap64 (rd x0 x1)) < 128 then (if (wrap64 (rd x0 x1)) = 0 then (if x9 > 0 then (some ((⟨#[]⟩ : ByteArray), (-1))) else (if (Go.bits .or .i64 x8 (shl .i64 (Int.tmod (wrap64 (rd x0 x1)) 128) x9)) > x2 then (some ((⟨#[]⟩ : ByteArray), (-1))) else (if (Go.bits .or .i64 x8 (shl .i64 (Int.tmod (wrap64 (rd x0 x1)) 128) x9)) > (wrap64 ((x0.length : Int) - (wrap64 (x1 + 1)))) then (some ((⟨#[]⟩ : ByteArray), (-1))) else (if 0 ≤ (wrap64 (x1 + 1)) then (if (wrap64 (x1 + 1)) ≤ (wrap64 ((wrap64 (x1 + 1)) + (Go.bits .or .i64 x8 (shl .i64 (Int.tmod (wrap64 (rd x0 x1)) 128) x9)))) then (if (wrap64 ((wrap64 (x1 + 1)) + (Go.bits .or .i64 x8 (shl .i64 (Int.tmod (wrap64 (rd x0 x1)) 128) x9)))) ≤ (x0.length : Int) then (some (strOfNums ((x0.take ((wrap64 ((wrap64 (x1 + 1)) + (Go.bits .or .i64 x8 (shl .i64 (Int.tmod (wrap64 (rd x0 x1)) 128) x9)))) : Int).toNat).drop ((wrap64 (x1 + 1)) : Int).toNat), wrap64 ((wrap64 (x1 + 1)) + (Go.bits .or .i64 x8 (shl .i64 (Int.tmod (wrap64 (rd x0 x1)) 128) x9))))) else (none)) else (none)) else (none))))) else (if (Go.bits .or .i64 x8 (shl .i64 (Int.tmod (wrap64 (rd x0 x1)) 128) x9)) > x2 then (some ((⟨#[]⟩ : ByteArray), (-1))) else (if (Go.bits .or .i64 x8 (shl .i64 (Int.tmod (wrap64 (rd x0 x1)) 128) x9)) > (wrap64 ((x0.length : Int) - (wrap64 (x1 + 1)))) then (some ((⟨#[]⟩ : ByteArray), (-1))) else (if 0 ≤ (wrap64 (x1 + 1)) then (if (wrap64 (x1 + 1)) ≤ (wrap64 ((wrap64 (x1 + 1)) + (Go.bits .or .i64 x8 (shl .i64 (Int.tmod (wrap64 (rd x0 x1)) 128) x9)))) then (if (wrap64 ((wrap64 (x1 + 1)) + (Go.bits .or .i64 x8 (shl .i64 (Int.tmod (wrap64 (rd x0 x1)) 128) x9)))) ≤ (x0.length : Int) then (some (strOfNums ((x0.take ((wrap64 ((wrap64 (x1 + 1)) + (Go.bits .or .i64 x8 (shl .i64 (Int.tmod (wrap64 (rd x0 x1)) 128) x9)))) : Int).toNat).drop ((wrap64 (x1 + 1)) : Int).toNat), wrap64 ((wrap64 (x1 + 1)) + (Go.bits .or .i64 x8 (shl .i64 (Int.tmod (wrap64 (rd x0 x1)) 128) x9))))) else (none)) else (none)) else (none))))) else (moraineref04_read.l0 k x0 (wrap64 (x1 + 1)) x2 (Go.bits .or .i64 x8 (shl .i64 (Int.tmod (wrap64 (rd x0 x1)) 128) x9)) (wrap64 (x9 + 7)))) else (none)) else (none)) else (none))
end
def moraineref04_read.f (k : Nat) (l0 : List Int) (a1 : Int) (a2 : Int) : Option (ByteArray × Int) := moraineref04_read.l0 k l0 a1 a2 0 0
theorem moraineref04_read.mono_l : ∀ k, (∀ y0 y1 y2 y3 y4, LeO (moraineref04_read.l0 k y0 y1 y2 y3 y4) (moraineref04_read.l0 (k + 1) y0 y1 y2 y3 y4)) ∧ (∀ y0 y1 y2 y3 y4 y5, LeO (moraineref04_read.j1 k y0 y1 y2 y3 y4 y5) (moraineref04_read.j1 (k + 1) y0 y1 y2 y3 y4 y5))
  | 0 => ⟨fun _ _ _ _ _ r h => by simp [moraineref04_read.l0] at h, fun _ _ _ _ _ _ r h => by simp [moraineref04_read.j1] at h⟩
  | k + 1 => by
    obtain ⟨ih0, ih1⟩ := moraineref04_read.mono_l k
    refine ⟨?_, ?_⟩
    · intro y0 y1 y2 y3 y4
      unfold moraineref04_read.l0
      repeat' first
      | (with_reducible exact ih0 _ _ _ _ _)
      | (with_reducible exact ih1 _ _ _ _ _ _)
      | (with_reducible exact LeO.refl _)
      | (with_reducible exact LeO.none _)
      | (with_reducible refine LeO.ite ?_ ?_)
      | (with_reducible refine LeO.bind ?_ (fun _ => ?_))
      | exact ih0 _ _ _ _ _
      | exact ih1 _ _ _ _ _ _
      | exact LeO.none _
      | refine LeO.ite ?_ ?_
      | refine LeO.bind ?_ (fun _ => ?_)
    · intro y0 y1 y2 y3 y4 y5
      unfold moraineref04_read.j1
      repeat' first
      | (with_reducible exact ih0 _ _ _ _ _)
      | (with_reducible exact ih1 _ _ _ _ _ _)
      | (with_reducible exact LeO.refl _)
      | (with_reducible exact LeO.none _)
      | (with_reducible refine LeO.ite ?_ ?_)
      | (with_reducible refine LeO.bind ?_ (fun _ => ?_))
      | exact ih0 _ _ _ _ _
      | exact ih1 _ _ _ _ _ _
      | exact LeO.none _
      | refine LeO.ite ?_ ?_
      | refine LeO.bind ?_ (fun _ => ?_)
theorem moraineref04_read.mono : ∀ a0 a1 a2 k, LeO (moraineref04_read.f k a0 a1 a2) (moraineref04_read.f (k + 1) a0 a1 a2) := by
  intro a0 a1 a2 k
  obtain ⟨ih0, ih1⟩ := moraineref04_read.mono_l k
  unfold moraineref04_read.f
  repeat' first
      | (with_reducible exact ih0 _ _ _ _ _)
      | (with_reducible exact ih1 _ _ _ _ _ _)
      | (with_reducible exact LeO.refl _)
      | (with_reducible exact LeO.none _)
      | (with_reducible refine LeO.ite ?_ ?_)
      | (with_reducible refine LeO.bind ?_ (fun _ => ?_))
      | exact ih0 _ _ _ _ _
      | exact ih1 _ _ _ _ _ _
      | exact LeO.none _
      | refine LeO.ite ?_ ?_
      | refine LeO.bind ?_ (fun _ => ?_)
set_option maxHeartbeats 8000000 in
set_option maxRecDepth 100000 in
theorem moraineref04_read.calls (k : Nat) (A0 : Option Addr) (c0 : Nat) (l0 : List Int) (a1 : Int) (a2 : Int) (r1 : ByteArray) (r2 : Int) (w : World) (hr0 : Kd.C (Kd.int .u8) w A0 l0.length l0) (hc0 : l0.length ≤ c0) (h : moraineref04_read.f k l0 a1 a2 = some (r1, r2)) :
    Calls Try.prog 79 #[.slice A0 l0.length c0, .int .i64 a1, .int .i64 a2] w fun e w' => e = .returned (.tuple #[.string r1, .int .i64 r2]) ∧ Drawn0 w w' := by
  have HR0 := Aside0.mk hr0
  have HC0 := Aside0.mk hc0
  clear hr0 hc0
  have H : (moraineref04_read.l0 k l0 a1 a2 0 0) = some (r1, r2) := h
  clear h
  have H' := Aside0.mk H
  clear H
  go_enter Try.func79, Try.ntmps79
  go_wp2
  go_loopg [1, 8, 9] k (fun kq v1 v8 v9 w' => ∃ (x1_1 : Int) (x8_1 : Int) (x9_1 : Int), v1 = .int .i64 x1_1 ∧ v8 = .int .i64 x8_1 ∧ v9 = .int .i64 x9_1 ∧ Aside0 (moraineref04_read.l0 kq l0 x1_1 a2 x8_1 x9_1 = some (r1, r2)) ∧ Aside0 (kq ≤ k) ∧ Drawn0 w w')
  case atStart => exact ⟨(a1), (0), (0), (by first | rfl | (simp; done) | (simp [*]; done)), (by first | rfl | (simp; done) | (simp [*]; done)), (by first | rfl | (simp; done) | (simp [*]; done)), H', ⟨Nat.le_refl _⟩, by repeat (first | exact Drawn0.refl _ | apply Drawn0.step)⟩
  case round =>
    clear H'
    try clear p2
    obtain ⟨x1_1, x8_1, x9_1, rfl, rfl, rfl, HA, HK1, ⟨m1, rfl⟩⟩ := hrel
    cases gk with
    | zero => exact absurd HA.out (by simp [moraineref04_read.l0])
    | succ k1 =>
      have H := HA.out
      clear HA
      simp only [moraineref04_read.l0] at H
      have HC4 := Aside0.mk H
      clear H
      go_upto_region 2 with (fail)
      go_cut [18] (fun v18 wc => ∃ (kq : Nat) (x18_3 : Bool), v18 = .bool x18_3 ∧ Aside0 (moraineref04_read.j1 kq l0 x1_1 a2 x8_1 x9_1 x18_3 = some (r1, r2)) ∧ Aside0 (kq ≤ k1) ∧ Drawn0 w wc)
      case first =>
        have H := HC4.out
        clear HC4
        by_cases c5 : x1_1 ≥ (l0.length : Int)
        · rw [if_pos c5] at H
          have c5b0 : decide ((l0.length : Int) ≤ x1_1) = true := decide_eq_true c5
          clear c5
          (first | rw [c5b0] | (simp only [i64_w, i32_w]; rw [c5b0]) | skip)
          have H' := Aside0.mk H
          clear H
          go_wp2
          go_meet
          case rel => exact ⟨_, (true), (by first | rfl | (simp; done) | (simp [*]; done)), H', ⟨by have := HK1.out; first | omega | exact Nat.le_refl _⟩, by repeat (first | exact Drawn0.refl _ | apply Drawn0.step)⟩
        · rw [if_neg c5] at H
          have c5b0 : decide ((l0.length : Int) ≤ x1_1) = false := decide_eq_false c5
          clear c5
          (first | rw [c5b0] | (simp only [i64_w, i32_w]; rw [c5b0]) | skip)
          have H' := Aside0.mk H
          clear H
          go_wp2
          go_meet
          case rel => exact ⟨_, (decide (x9_1 > 21)), (by first | rfl | (simp; done) | (simp [*]; done)), H', ⟨by have := HK1.out; first | omega | exact Nat.le_refl _⟩, by repeat (first | exact Drawn0.refl _ | apply Drawn0.step)⟩
      case rest =>
        clear HC4
        try clear p2
        try clear c5
        try clear c5b0
        try clear p2
        obtain ⟨kq, x18_3, rfl, HA, HJ3, ⟨mc3, rfl⟩⟩ := hcut
        cases kq with
        | zero => exact absurd HA.out (by simp [moraineref04_read.j1])
        | succ kj3 =>
          have H := HA.out
          clear HA
          simp only [moraineref04_read.j1] at H
          by_cases c6 : x18_3 = true
          · subst c6
            have H1 : (some ((⟨#[]⟩ : ByteArray), (-1))) = some (r1, r2) := by rw [if_pos rfl] at H; exact H
            clear H
            have H := H1
            clear H1
            simp only [Option.some.injEq, Prod.mk.injEq] at H
            obtain ⟨rfl, rfl⟩ := H
            go_wp2
            go_ret2
            exact ⟨by first | rfl | (simp; done) | (simp [*]; done), by repeat (first | exact Drawn0.refl _ | apply Drawn0.step)⟩
          · replace c6 := Bool.eq_false_iff.mpr c6
            subst c6
            have H1 : (if 0 ≤ x1_1 then (if x1_1 < (l0.length : Int) then (if 0 ≤ x9_1 then (if (wrap64 (rd l0 x1_1)) < 128 then (if (wrap64 (rd l0 x1_1)) = 0 then (if x9_1 > 0 then (some ((⟨#[]⟩ : ByteArray), (-1))) else (if (Go.bits .or .i64 x8_1 (shl .i64 (Int.tmod (wrap64 (rd l0 x1_1)) 128) x9_1)) > a2 then (some ((⟨#[]⟩ : ByteArray), (-1))) else (if (Go.bits .or .i64 x8_1 (shl .i64 (Int.tmod (wrap64 (rd l0 x1_1)) 128) x9_1)) > (wrap64 ((l0.length : Int) - (wrap64 (x1_1 + 1)))) then (some ((⟨#[]⟩ : ByteArray), (-1))) else (if 0 ≤ (wrap64 (x1_1 + 1)) then (if (wrap64 (x1_1 + 1)) ≤ (wrap64 ((wrap64 (x1_1 + 1)) + (Go.bits .or .i64 x8_1 (shl .i64 (Int.tmod (wrap64 (rd l0 x1_1)) 128) x9_1)))) then (if (wrap64 ((wrap64 (x1_1 + 1)) + (Go.bits .or .i64 x8_1 (shl .i64 (Int.tmod (wrap64 (rd l0 x1_1)) 128) x9_1)))) ≤ (l0.length : Int) then (some (strOfNums ((l0.take ((wrap64 ((wrap64 (x1_1 + 1)) + (Go.bits .or .i64 x8_1 (shl .i64 (Int.tmod (wrap64 (rd l0 x1_1)) 128) x9_1)))) : Int).toNat).drop ((wrap64 (x1_1 + 1)) : Int).toNat), wrap64 ((wrap64 (x1_1 + 1)) + (Go.bits .or .i64 x8_1 (shl .i64 (Int.tmod (wrap64 (rd l0 x1_1)) 128) x9_1))))) else (none)) else (none)) else (none))))) else (if (Go.bits .or .i64 x8_1 (shl .i64 (Int.tmod (wrap64 (rd l0 x1_1)) 128) x9_1)) > a2 then (some ((⟨#[]⟩ : ByteArray), (-1))) else (if (Go.bits .or .i64 x8_1 (shl .i64 (Int.tmod (wrap64 (rd l0 x1_1)) 128) x9_1)) > (wrap64 ((l0.length : Int) - (wrap64 (x1_1 + 1)))) then (some ((⟨#[]⟩ : ByteArray), (-1))) else (if 0 ≤ (wrap64 (x1_1 + 1)) then (if (wrap64 (x1_1 + 1)) ≤ (wrap64 ((wrap64 (x1_1 + 1)) + (Go.bits .or .i64 x8_1 (shl .i64 (Int.tmod (wrap64 (rd l0 x1_1)) 128) x9_1)))) then (if (wrap64 ((wrap64 (x1_1 + 1)) + (Go.bits .or .i64 x8_1 (shl .i64 (Int.tmod (wrap64 (rd l0 x1_1)) 128) x9_1)))) ≤ (l0.length : Int) then (some (strOfNums ((l0.take ((wrap64 ((wrap64 (x1_1 + 1)) + (Go.bits .or .i64 x8_1 (shl .i64 (Int.tmod (wrap64 (rd l0 x1_1)) 128) x9_1)))) : Int).toNat).drop ((wrap64 (x1_1 + 1)) : Int).toNat), wrap64 ((wrap64 (x1_1 + 1)) + (Go.bits .or .i64 x8_1 (shl .i64 (Int.tmod (wrap64 (rd l0 x1_1)) 128) x9_1))))) else (none)) else (none)) else (none))))) else (moraineref04_read.l0 kj3 l0 (wrap64 (x1_1 + 1)) a2 (Go.bits .or .i64 x8_1 (shl .i64 (Int.tmod (wrap64 (rd l0 x1_1)) 128) x9_1)) (wrap64 (x9_1 + 7)))) else (none)) else (none)) else (none)) = some (r1, r2) := by rw [if_neg (show ¬ (false = true) by decide)] at H; exact H
            clear H
            have H := H1
            clear H1
            by_cases c7 : 0 ≤ x1_1
            · rw [if_pos c7] at H
              have c7b0 : decide (0 ≤ x1_1) = true := decide_eq_true c7
              clear c7
              by_cases c8 : x1_1 < (l0.length : Int)
              · rw [if_pos c8] at H
                have c8b0 : decide (x1_1 < (l0.length : Int)) = true := decide_eq_true c8
                clear c8
                by_cases c9 : 0 ≤ x9_1
                · rw [if_pos c9] at H
                  have c9b0 := eq_true c9
                  have c9b1 : decide (0 ≤ x9_1) = true := decide_eq_true c9
                  clear c9
                  obtain ⟨ji10, hji10⟩ : ∃ j_ : Int, (shl .i64 (Int.tmod (wrap64 (rd l0 x1_1)) 128) x9_1) = j_ := ⟨_, rfl⟩
                  replace H : (if (wrap64 (rd l0 x1_1)) < 128 then (if (wrap64 (rd l0 x1_1)) = 0 then (if x9_1 > 0 then (some ((⟨#[]⟩ : ByteArray), (-1))) else (if (Go.bits .or .i64 x8_1 (ji10)) > a2 then (some ((⟨#[]⟩ : ByteArray), (-1))) else (if (Go.bits .or .i64 x8_1 (ji10)) > (wrap64 ((l0.length : Int) - (wrap64 (x1_1 + 1)))) then (some ((⟨#[]⟩ : ByteArray), (-1))) else (if 0 ≤ (wrap64 (x1_1 + 1)) then (if (wrap64 (x1_1 + 1)) ≤ (wrap64 ((wrap64 (x1_1 + 1)) + (Go.bits .or .i64 x8_1 (ji10)))) then (if (wrap64 ((wrap64 (x1_1 + 1)) + (Go.bits .or .i64 x8_1 (ji10)))) ≤ (l0.length : Int) then (some (strOfNums ((l0.take ((wrap64 ((wrap64 (x1_1 + 1)) + (Go.bits .or .i64 x8_1 (ji10)))) : Int).toNat).drop ((wrap64 (x1_1 + 1)) : Int).toNat), wrap64 ((wrap64 (x1_1 + 1)) + (Go.bits .or .i64 x8_1 (ji10))))) else (none)) else (none)) else (none))))) else (if (Go.bits .or .i64 x8_1 (ji10)) > a2 then (some ((⟨#[]⟩ : ByteArray), (-1))) else (if (Go.bits .or .i64 x8_1 (ji10)) > (wrap64 ((l0.length : Int) - (wrap64 (x1_1 + 1)))) then (some ((⟨#[]⟩ : ByteArray), (-1))) else (if 0 ≤ (wrap64 (x1_1 + 1)) then (if (wrap64 (x1_1 + 1)) ≤ (wrap64 ((wrap64 (x1_1 + 1)) + (Go.bits .or .i64 x8_1 (ji10)))) then (if (wrap64 ((wrap64 (x1_1 + 1)) + (Go.bits .or .i64 x8_1 (ji10)))) ≤ (l0.length : Int) then (some (strOfNums ((l0.take ((wrap64 ((wrap64 (x1_1 + 1)) + (Go.bits .or .i64 x8_1 (ji10)))) : Int).toNat).drop ((wrap64 (x1_1 + 1)) : Int).toNat), wrap64 ((wrap64 (x1_1 + 1)) + (Go.bits .or .i64 x8_1 (ji10))))) else (none)) else (none)) else (none))))) else (moraineref04_read.l0 kj3 l0 (wrap64 (x1_1 + 1)) a2 (Go.bits .or .i64 x8_1 (ji10)) (wrap64 (x9_1 + 7)))) = some (r1, r2) := by first | (rw [hji10] at H; exact H) | (simp only [hji10] at H ⊢; exact H)
                  have hji10_ : (IntKind.i64.wrap ((Int.tmod (wrap64 (rd l0 x1_1)) 128) * 2 ^ min x9_1.toNat 64)) = ji10 := hji10
                  have hji10z : x9_1 ≤ 64 → (IntKind.i64.wrap ((Int.tmod (wrap64 (rd l0 x1_1)) 128) * 2 ^ x9_1.toNat)) = ji10 := shl_small hji10
                  have hji10y : (wrap64 ((Int.tmod (wrap64 (rd l0 x1_1)) 128) * 2 ^ min x9_1.toNat 64)) = ji10 := (i64_w _).symm.trans hji10_
                  have hji10x : x9_1 ≤ 64 → (wrap64 ((Int.tmod (wrap64 (rd l0 x1_1)) 128) * 2 ^ x9_1.toNat)) = ji10 := fun h_ => (i64_w _).symm.trans (hji10z h_)
                  by_cases c11 : (wrap64 (rd l0 x1_1)) < 128
                  · rw [if_pos c11] at H
                    have c11b0 : decide ((wrap64 (rd l0 x1_1)) < 128) = true := decide_eq_true c11
                    clear c11
                    by_cases c12 : (wrap64 (rd l0 x1_1)) = 0
                    · rw [if_pos c12] at H
                      have c12b0 : ((wrap64 (rd l0 x1_1)) == 0) = true := beq_iff_eq.mpr c12
                      have c12b1 : ((wrap64 (rd l0 x1_1)) != 0) = false := bne_eq_false_iff_eq.mpr c12
                      clear c12
                      by_cases c13 : x9_1 > 0
                      · rw [if_pos c13] at H
                        have c13b0 : decide (0 < x9_1) = true := decide_eq_true c13
                        clear c13
                        simp only [Option.some.injEq, Prod.mk.injEq] at H
                        obtain ⟨rfl, rfl⟩ := H
                        have p228 : 0 ≤ (x1_1 : Int) := of_decide_eq_true (by first | (with_reducible assumption) | assumption)
                        have q228 : x1_1 < (l0.length : Int) := of_decide_eq_true (by first | (with_reducible assumption) | assumption)
                        obtain ⟨ad228, e228, hx228_0⟩ := Kd.at_int HR0.out x1_1 p228 q228
                        cases e228
                        replace p228 := eq_true p228
                        replace q228 := eq_true q228
                        go_wp2
                        go_ret2
                        exact ⟨by first | rfl | (simp; done) | (simp only [← hji10] <;> (first | rfl | simp)) | (simp [*]; done), by repeat (first | exact Drawn0.refl _ | apply Drawn0.step)⟩
                      · rw [if_neg c13] at H
                        have c13b0 : decide (0 < x9_1) = false := decide_eq_false c13
                        clear c13
                        by_cases c14 : (Go.bits .or .i64 x8_1 (ji10)) > a2
                        · rw [if_pos c14] at H
                          have c14b0 : decide (a2 < (Go.bits .or .i64 x8_1 (ji10))) = true := decide_eq_true c14
                          clear c14
                          simp only [Option.some.injEq, Prod.mk.injEq] at H
                          obtain ⟨rfl, rfl⟩ := H
                          have p228 : 0 ≤ (x1_1 : Int) := of_decide_eq_true (by first | (with_reducible assumption) | assumption)
                          have q228 : x1_1 < (l0.length : Int) := of_decide_eq_true (by first | (with_reducible assumption) | assumption)
                          obtain ⟨ad228, e228, hx228_0⟩ := Kd.at_int HR0.out x1_1 p228 q228
                          cases e228
                          replace p228 := eq_true p228
                          replace q228 := eq_true q228
                          go_wp2
                          go_ret2
                          exact ⟨by first | rfl | (simp; done) | (simp only [← hji10] <;> (first | rfl | simp)) | (simp [*]; done), by repeat (first | exact Drawn0.refl _ | apply Drawn0.step)⟩
                        · rw [if_neg c14] at H
                          have c14b0 : decide (a2 < (Go.bits .or .i64 x8_1 (ji10))) = false := decide_eq_false c14
                          clear c14
                          by_cases c15 : (Go.bits .or .i64 x8_1 (ji10)) > (wrap64 ((l0.length : Int) - (wrap64 (x1_1 + 1))))
                          · rw [if_pos c15] at H
                            have c15b0 : decide ((wrap64 ((l0.length : Int) - (wrap64 (x1_1 + 1)))) < (Go.bits .or .i64 x8_1 (ji10))) = true := decide_eq_true c15
                            clear c15
                            simp only [Option.some.injEq, Prod.mk.injEq] at H
                            obtain ⟨rfl, rfl⟩ := H
                            have p228 : 0 ≤ (x1_1 : Int) := of_decide_eq_true (by first | (with_reducible assumption) | assumption)
                            have q228 : x1_1 < (l0.length : Int) := of_decide_eq_true (by first | (with_reducible assumption) | assumption)
                            obtain ⟨ad228, e228, hx228_0⟩ := Kd.at_int HR0.out x1_1 p228 q228
                            cases e228
                            replace p228 := eq_true p228
                            replace q228 := eq_true q228
                            go_wp2
                            go_ret2
                            exact ⟨by first | rfl | (simp; done) | (simp only [← hji10] <;> (first | rfl | simp)) | (simp [*]; done), by repeat (first | exact Drawn0.refl _ | apply Drawn0.step)⟩
                          · rw [if_neg c15] at H
                            have c15b0 : decide ((wrap64 ((l0.length : Int) - (wrap64 (x1_1 + 1)))) < (Go.bits .or .i64 x8_1 (ji10))) = false := decide_eq_false c15
                            clear c15
                            obtain ⟨ji16, hji16⟩ : ∃ j_ : Int, (wrap64 (x1_1 + 1)) = j_ := ⟨_, rfl⟩
                            replace H : (if 0 ≤ (ji16) then (if (ji16) ≤ (wrap64 ((ji16) + (Go.bits .or .i64 x8_1 (ji10)))) then (if (wrap64 ((ji16) + (Go.bits .or .i64 x8_1 (ji10)))) ≤ (l0.length : Int) then (some (strOfNums ((l0.take ((wrap64 ((ji16) + (Go.bits .or .i64 x8_1 (ji10)))) : Int).toNat).drop ((ji16) : Int).toNat), wrap64 ((ji16) + (Go.bits .or .i64 x8_1 (ji10))))) else (none)) else (none)) else (none)) = some (r1, r2) := by first | (rw [hji16] at H; exact H) | (simp only [hji16] at H ⊢; exact H)
                            (try rw [hji16] at c15b0)
                            have hji16w : (IntKind.i64.wrap (x1_1 + 1)) = ji16 := (i64_w _).trans hji16
                            by_cases c17 : 0 ≤ (ji16)
                            · rw [if_pos c17] at H
                              have c17b0 := eq_true c17
                              have c17b1 : decide (0 ≤ (ji16)) = true := decide_eq_true c17
                              clear c17
                              by_cases c18 : (ji16) ≤ (wrap64 ((ji16) + (Go.bits .or .i64 x8_1 (ji10))))
                              · rw [if_pos c18] at H
                                have c18b0 := eq_true c18
                                have c18b1 : decide ((ji16) ≤ (wrap64 ((ji16) + (Go.bits .or .i64 x8_1 (ji10))))) = true := decide_eq_true c18
                                by_cases c19 : (wrap64 ((ji16) + (Go.bits .or .i64 x8_1 (ji10)))) ≤ (l0.length : Int)
                                · rw [if_pos c19] at H
                                  have c19b0 := eq_true c19
                                  have c19b1 : decide ((wrap64 ((ji16) + (Go.bits .or .i64 x8_1 (ji10)))) ≤ (l0.length : Int)) = true := decide_eq_true c19
                                  simp only [Option.some.injEq, Prod.mk.injEq] at H
                                  obtain ⟨rfl, rfl⟩ := H
                                  have p228 : 0 ≤ (x1_1 : Int) := of_decide_eq_true (by first | (with_reducible assumption) | assumption)
                                  have q228 : x1_1 < (l0.length : Int) := of_decide_eq_true (by first | (with_reducible assumption) | assumption)
                                  obtain ⟨ad228, e228, hx228_0⟩ := Kd.at_int HR0.out x1_1 p228 q228
                                  cases e228
                                  replace p228 := eq_true p228
                                  replace q228 := eq_true q228
                                  obtain ⟨i020, hi020, _, hsz20, _⟩ := info_parts info5
                                  obtain ⟨A20, hcut20, hA20, hC20⟩ := print_mid_of (P := Try.prog) (Value.int .u8) 0 33 5 .i64 .i64 Try.underlying33 hi020 hsz20 (some ad228) c0 l0 (ji16) (wrap64 ((ji16) + (Go.bits .or .i64 x8_1 (ji10)))) (of_decide_eq_true (by first | (with_reducible assumption) | assumption)) (by first | omega | exact of_decide_eq_true (by first | (with_reducible assumption) | assumption)) (of_decide_eq_true (by first | (with_reducible assumption) | assumption)) HC0.out
                                  have HR229 := Aside0.mk (Kd.C_of_reads (h1 := fun _ => rfl) (hA20 _ (Kd.reads_of_C HR0.out)))
                                  have HC229 := Aside0.mk hC20
                                  clear hA20 hC20 hi020 hsz20
                                  have hcv21 := fun nd_ => Kd.C_string (P := Try.prog) (A := A20) (c := (c0 - (ji16).toNat)) Try.underlying33 Try.underlying5 Try.underlying9 (Kd.C_drewN HR229.out nd_)
                                  generalize ((l0.take ((wrap64 ((ji16) + (Go.bits .or .i64 x8_1 (ji10)))) : Int).toNat).drop ((ji16) : Int).toNat).length = m_ at hcut20 hcv21
                                  go_wp2
                                  go_ret2
                                  exact ⟨by first | rfl | (simp; done) | (simp only [← hji10, ← hji16] <;> (first | rfl | simp)) | (simp [*]; done), by repeat (first | exact Drawn0.refl _ | apply Drawn0.step)⟩
                                · rw [if_neg c19] at H
                                  exact absurd H (by simp)
                              · rw [if_neg c18] at H
                                exact absurd H (by simp)
                            · rw [if_neg c17] at H
                              exact absurd H (by simp)
                    · rw [if_neg c12] at H
                      have c12b0 : ((wrap64 (rd l0 x1_1)) == 0) = false := beq_eq_false_iff_ne.mpr c12
                      have c12b1 : ((wrap64 (rd l0 x1_1)) != 0) = true := bne_iff_ne.mpr c12
                      by_cases c22 : (Go.bits .or .i64 x8_1 (ji10)) > a2
                      · rw [if_pos c22] at H
                        have c22b0 : decide (a2 < (Go.bits .or .i64 x8_1 (ji10))) = true := decide_eq_true c22
                        clear c22
                        simp only [Option.some.injEq, Prod.mk.injEq] at H
                        obtain ⟨rfl, rfl⟩ := H
                        have p228 : 0 ≤ (x1_1 : Int) := of_decide_eq_true (by first | (with_reducible assumption) | assumption)
                        have q228 : x1_1 < (l0.length : Int) := of_decide_eq_true (by first | (with_reducible assumption) | assumption)
                        obtain ⟨ad228, e228, hx228_0⟩ := Kd.at_int HR0.out x1_1 p228 q228
                        cases e228
                        replace p228 := eq_true p228
                        replace q228 := eq_true q228
                        go_wp2
                        go_ret2
                        exact ⟨by first | rfl | (simp; done) | (simp only [← hji10] <;> (first | rfl | simp)) | (simp [*]; done), by repeat (first | exact Drawn0.refl _ | apply Drawn0.step)⟩
                      · rw [if_neg c22] at H
                        have c22b0 : decide (a2 < (Go.bits .or .i64 x8_1 (ji10))) = false := decide_eq_false c22
                        clear c22
                        by_cases c23 : (Go.bits .or .i64 x8_1 (ji10)) > (wrap64 ((l0.length : Int) - (wrap64 (x1_1 + 1))))
                        · rw [if_pos c23] at H
                          have c23b0 : decide ((wrap64 ((l0.length : Int) - (wrap64 (x1_1 + 1)))) < (Go.bits .or .i64 x8_1 (ji10))) = true := decide_eq_true c23
                          clear c23
                          simp only [Option.some.injEq, Prod.mk.injEq] at H
                          obtain ⟨rfl, rfl⟩ := H
                          have p228 : 0 ≤ (x1_1 : Int) := of_decide_eq_true (by first | (with_reducible assumption) | assumption)
                          have q228 : x1_1 < (l0.length : Int) := of_decide_eq_true (by first | (with_reducible assumption) | assumption)
                          obtain ⟨ad228, e228, hx228_0⟩ := Kd.at_int HR0.out x1_1 p228 q228
                          cases e228
                          replace p228 := eq_true p228
                          replace q228 := eq_true q228
                          go_wp2
                          go_ret2
                          exact ⟨by first | rfl | (simp; done) | (simp only [← hji10] <;> (first | rfl | simp)) | (simp [*]; done), by repeat (first | exact Drawn0.refl _ | apply Drawn0.step)⟩
                        · rw [if_neg c23] at H
                          have c23b0 : decide ((wrap64 ((l0.length : Int) - (wrap64 (x1_1 + 1)))) < (Go.bits .or .i64 x8_1 (ji10))) = false := decide_eq_false c23
                          clear c23
                          obtain ⟨ji24, hji24⟩ : ∃ j_ : Int, (wrap64 (x1_1 + 1)) = j_ := ⟨_, rfl⟩
                          replace H : (if 0 ≤ (ji24) then (if (ji24) ≤ (wrap64 ((ji24) + (Go.bits .or .i64 x8_1 (ji10)))) then (if (wrap64 ((ji24) + (Go.bits .or .i64 x8_1 (ji10)))) ≤ (l0.length : Int) then (some (strOfNums ((l0.take ((wrap64 ((ji24) + (Go.bits .or .i64 x8_1 (ji10)))) : Int).toNat).drop ((ji24) : Int).toNat), wrap64 ((ji24) + (Go.bits .or .i64 x8_1 (ji10))))) else (none)) else (none)) else (none)) = some (r1, r2) := by first | (rw [hji24] at H; exact H) | (simp only [hji24] at H ⊢; exact H)
                          (try rw [hji24] at c23b0)
                          have hji24w : (IntKind.i64.wrap (x1_1 + 1)) = ji24 := (i64_w _).trans hji24
                          by_cases c25 : 0 ≤ (ji24)
                          · rw [if_pos c25] at H
                            have c25b0 := eq_true c25
                            have c25b1 : decide (0 ≤ (ji24)) = true := decide_eq_true c25
                            clear c25
                            by_cases c26 : (ji24) ≤ (wrap64 ((ji24) + (Go.bits .or .i64 x8_1 (ji10))))
                            · rw [if_pos c26] at H
                              have c26b0 := eq_true c26
                              have c26b1 : decide ((ji24) ≤ (wrap64 ((ji24) + (Go.bits .or .i64 x8_1 (ji10))))) = true := decide_eq_true c26
                              by_cases c27 : (wrap64 ((ji24) + (Go.bits .or .i64 x8_1 (ji10)))) ≤ (l0.length : Int)
                              · rw [if_pos c27] at H
                                have c27b0 := eq_true c27
                                have c27b1 : decide ((wrap64 ((ji24) + (Go.bits .or .i64 x8_1 (ji10)))) ≤ (l0.length : Int)) = true := decide_eq_true c27
                                simp only [Option.some.injEq, Prod.mk.injEq] at H
                                obtain ⟨rfl, rfl⟩ := H
                                have p228 : 0 ≤ (x1_1 : Int) := of_decide_eq_true (by first | (with_reducible assumption) | assumption)
                                have q228 : x1_1 < (l0.length : Int) := of_decide_eq_true (by first | (with_reducible assumption) | assumption)
                                obtain ⟨ad228, e228, hx228_0⟩ := Kd.at_int HR0.out x1_1 p228 q228
                                cases e228
                                replace p228 := eq_true p228
                                replace q228 := eq_true q228
                                obtain ⟨i028, hi028, _, hsz28, _⟩ := info_parts info5
                                obtain ⟨A28, hcut28, hA28, hC28⟩ := print_mid_of (P := Try.prog) (Value.int .u8) 0 33 5 .i64 .i64 Try.underlying33 hi028 hsz28 (some ad228) c0 l0 (ji24) (wrap64 ((ji24) + (Go.bits .or .i64 x8_1 (ji10)))) (of_decide_eq_true (by first | (with_reducible assumption) | assumption)) (by first | omega | exact of_decide_eq_true (by first | (with_reducible assumption) | assumption)) (of_decide_eq_true (by first | (with_reducible assumption) | assumption)) HC0.out
                                have HR230 := Aside0.mk (Kd.C_of_reads (h1 := fun _ => rfl) (hA28 _ (Kd.reads_of_C HR0.out)))
                                have HC230 := Aside0.mk hC28
                                clear hA28 hC28 hi028 hsz28
                                have hcv29 := fun nd_ => Kd.C_string (P := Try.prog) (A := A28) (c := (c0 - (ji24).toNat)) Try.underlying33 Try.underlying5 Try.underlying9 (Kd.C_drewN HR230.out nd_)
                                generalize ((l0.take ((wrap64 ((ji24) + (Go.bits .or .i64 x8_1 (ji10)))) : Int).toNat).drop ((ji24) : Int).toNat).length = m_ at hcut28 hcv29
                                go_wp2
                                go_ret2
                                exact ⟨by first | rfl | (simp; done) | (simp only [← hji10, ← hji24] <;> (first | rfl | simp)) | (simp [*]; done), by repeat (first | exact Drawn0.refl _ | apply Drawn0.step)⟩
                              · rw [if_neg c27] at H
                                exact absurd H (by simp)
                            · rw [if_neg c26] at H
                              exact absurd H (by simp)
                          · rw [if_neg c25] at H
                            exact absurd H (by simp)
                  · rw [if_neg c11] at H
                    have c11b0 : decide ((wrap64 (rd l0 x1_1)) < 128) = false := decide_eq_false c11
                    clear c11
                    have H' := Aside0.mk H
                    clear H
                    have p228 : 0 ≤ (x1_1 : Int) := of_decide_eq_true (by first | (with_reducible assumption) | assumption)
                    have q228 : x1_1 < (l0.length : Int) := of_decide_eq_true (by first | (with_reducible assumption) | assumption)
                    obtain ⟨ad228, e228, hx228_0⟩ := Kd.at_int HR0.out x1_1 p228 q228
                    cases e228
                    replace p228 := eq_true p228
                    replace q228 := eq_true q228
                    go_wp2
                    go_roundg kj3
                    case measure => have := HK1.out; have := HJ3.out; omega
                    case rel => exact ⟨(wrap64 (x1_1 + 1)), (Go.bits .or .i64 x8_1 (ji10)), (wrap64 (x9_1 + 7)), (by first | rfl | (simp; done) | (simp [*]; done)), (by first | rfl | (simp; done) | (simp only [← hji10] <;> (first | rfl | simp)) | (simp [*]; done)), (by first | rfl | (simp; done) | (simp [*]; done)), H', ⟨by have := HK1.out; have := HJ3.out; omega⟩, by repeat (first | exact Drawn0.refl _ | apply Drawn0.step)⟩
                · rw [if_neg c9] at H
                  exact absurd H (by simp)
              · rw [if_neg c8] at H
                exact absurd H (by simp)
            · rw [if_neg c7] at H
              exact absurd H (by simp)

end Go.Proofs.Ythkooncibfkepaa.G

/- Printed by the session's program over the kit's print, out of the translation: functions as plain Lean functions, and the proofs that the calls come to them. -/
namespace Go.Proofs.Ythkooncibfkepaa.G
open Go.RowKit Go.Proofs.YthkooncibfkepaaW.PrintWords Go.Proofs.YthkooncibfkepaaW.PrintLast Go.Proofs.YthkooncibfkepaaW.PrintMore
attribute [local go_sem] max2_int min2_int max_two min_two max_three min_three max_four min_four   -- for this text's walks alone
set_option linter.unusedVariables false
set_option linter.unusedSimpArgs false

/-! ### moraineref04_op: function 67 -/
def moraineref04_op.j0 : Nat → List Int → Int → Bool → Int → ByteArray → ByteArray → Option (Int × ByteArray × ByteArray × Int)
  | 0, _, _, _, _, _, _ => none
  | k + 1, x0, x1, x32, x234000, x234001, x234002 => if x32 = true then ((moraineref04_read.f k x0 x1 65536).bind fun bt236 => (if bt236.2 < 0 then (some (0, (⟨#[]⟩ : ByteArray), (⟨#[]⟩ : ByteArray), (-1))) else ((moraineref04_May.f k x234000 x234001 bt236.1).bind fun t238 => (if t238 = true then (some (x234000, x234001, bt236.1, bt236.2)) else (some (0, (⟨#[]⟩ : ByteArray), (⟨#[]⟩ : ByteArray), (-1))))))) else (if x1 < 0 then (some (0, (⟨#[]⟩ : ByteArray), (⟨#[]⟩ : ByteArray), (-1))) else ((moraineref04_May.f k x234000 x234001 x234002).bind fun t239 => (if t239 = true then (some (x234000, x234001, x234002, x1)) else (some (0, (⟨#[]⟩ : ByteArray), (⟨#[]⟩ : ByteArray), (-1))))))
def moraineref04_op.f (k : Nat) (l0 : List Int) (a1 : Int) : Option (Int × ByteArray × ByteArray × Int) := if a1 ≥ (l0.length : Int) then (some (0, (⟨#[]⟩ : ByteArray), (⟨#[]⟩ : ByteArray), (-1))) else (if 0 ≤ a1 then (if a1 < (l0.length : Int) then ((moraineref04_read.f k l0 (wrap64 (a1 + 1)) 1024).bind fun bt234 => (if bt234.2 ≥ 0 then (moraineref04_op.j0 k l0 bt234.2 ((wrap64 (rd l0 a1)) != 0) (wrap64 (rd l0 a1)) bt234.1 (⟨#[]⟩ : ByteArray)) else (moraineref04_op.j0 k l0 bt234.2 false (wrap64 (rd l0 a1)) bt234.1 (⟨#[]⟩ : ByteArray)))) else (none)) else (none))
theorem moraineref04_op.mono_l : ∀ k, (∀ y0 y1 y2 y3 y4 y5, LeO (moraineref04_op.j0 k y0 y1 y2 y3 y4 y5) (moraineref04_op.j0 (k + 1) y0 y1 y2 y3 y4 y5))
  | 0 => fun _ _ _ _ _ _ r h => by simp [moraineref04_op.j0] at h
  | k + 1 => by
    have ih0 := moraineref04_op.mono_l k
    · intro y0 y1 y2 y3 y4 y5
      unfold moraineref04_op.j0
      repeat' first
      | (with_reducible exact ih0 _ _ _ _ _ _)
      | (with_reducible exact moraineref04_May.mono _ _ _ _)
      | (with_reducible exact moraineref04_read.mono _ _ _ _)
      | (with_reducible exact LeO.refl _)
      | (with_reducible exact LeO.none _)
      | (with_reducible refine LeO.ite ?_ ?_)
      | (with_reducible refine LeO.bind ?_ (fun _ => ?_))
      | exact ih0 _ _ _ _ _ _
      | exact moraineref04_May.mono _ _ _ _
      | exact moraineref04_read.mono _ _ _ _
      | exact LeO.none _
      | refine LeO.ite ?_ ?_
      | refine LeO.bind ?_ (fun _ => ?_)
theorem moraineref04_op.mono : ∀ a0 a1 k, LeO (moraineref04_op.f k a0 a1) (moraineref04_op.f (k + 1) a0 a1) := by
  intro a0 a1 k
  have ih0 := moraineref04_op.mono_l k
  unfold moraineref04_op.f
  repeat' first
      | (with_reducible exact ih0 _ _ _ _ _ _)
      | (with_reducible exact moraineref04_May.mono _ _ _ _)
      | (with_reducible exact moraineref04_read.mono _ _ _ _)
      | (with_reducible exact LeO.refl _)
      | (with_reducible exact LeO.none _)
      | (with_reducible refine LeO.ite ?_ ?_)
      | (with_reducible refine LeO.bind ?_ (fun _ => ?_))
      | exact ih0 _ _ _ _ _ _
      | exact moraineref04_May.mono _ _ _ _
      | exact moraineref04_read.mono _ _ _ _
      | exact LeO.none _
      | refine LeO.ite ?_ ?_
      | refine LeO.bind ?_ (fun _ => ?_)
set_option maxHeartbeats 8000000 in
set_option maxRecDepth 100000 in
theorem moraineref04_op.calls (k : Nat) (A0 : Option Addr) (c0 : Nat) (l0 : List Int) (a1 : Int) (r1 : Int) (r2 : ByteArray) (r3 : ByteArray) (r4 : Int) (w : World) (hr0 : Kd.C (Kd.int .u8) w A0 l0.length l0) (hc0 : l0.length ≤ c0) (h : moraineref04_op.f k l0 a1 = some (r1, r2, r3, r4)) :
    Calls Try.prog 67 #[.slice A0 l0.length c0, .int .i64 a1] w fun e w' => e = .returned (.tuple #[.agg #[.int .i64 r1, .string r2, .string r3], .int .i64 r4]) ∧ Below w.heap.size w w' := by
  have hu65 := Try.underlying65
  have HR0 := Aside0.mk hr0
  have HC0 := Aside0.mk hc0
  clear hr0 hc0
  have HB := Aside0.mk (Below.refl w.heap.size w)
  have H : (if a1 ≥ (l0.length : Int) then (some (0, (⟨#[]⟩ : ByteArray), (⟨#[]⟩ : ByteArray), (-1))) else (if 0 ≤ a1 then (if a1 < (l0.length : Int) then ((moraineref04_read.f k l0 (wrap64 (a1 + 1)) 1024).bind fun bt234 => (if bt234.2 ≥ 0 then (moraineref04_op.j0 k l0 bt234.2 ((wrap64 (rd l0 a1)) != 0) (wrap64 (rd l0 a1)) bt234.1 (⟨#[]⟩ : ByteArray)) else (moraineref04_op.j0 k l0 bt234.2 false (wrap64 (rd l0 a1)) bt234.1 (⟨#[]⟩ : ByteArray)))) else (none)) else (none))) = some (r1, r2, r3, r4) := h
  clear h
  by_cases c3 : a1 ≥ (l0.length : Int)
  · rw [if_pos c3] at H
    have c3b0 : decide ((l0.length : Int) ≤ a1) = true := decide_eq_true c3
    clear c3
    simp only [Option.some.injEq, Prod.mk.injEq] at H
    obtain ⟨rfl, rfl, rfl, rfl⟩ := H
    go_enter Try.func67, Try.ntmps67
    go_wp2_with (first | ((with_reducible refine gate_dst (N := 4) rfl ?_); refine box_event ?hg (N := 4) ?hd (cs := #[.int .i64 0, .string (⟨#[]⟩ : ByteArray), .string (⟨#[]⟩ : ByteArray)]) (t := 65) ?hr ?_; (case hd => rfl); (case hg => rfl); (case hr => first | (go_simp; done) | (go_simp; rfl)); intro gb231 hg w4 hbox hb; have n0_ := Aside0.mk (below_step (by repeat (first | (with_reducible first | exact HB.out | apply below_alloc | apply pw_below_drewN | apply below_drew1) | exact HB.out)) hb); have n1_ := Aside0.mk (hbox); have n2_ := Aside0.mk ((by rw [hg]; exact (below_size (by repeat (first | (with_reducible first | exact HB.out | apply below_alloc | apply pw_below_drewN | apply below_drew1) | exact HB.out))) : w.heap.size ≤ gb231)); have n3_ := Aside0.mk ((by rw [hg]; exact (below_size (by repeat (first | (with_reducible first | exact HB.out | apply below_alloc | apply pw_below_drewN | apply below_drew1) | exact HB.out))) : w.heap.size ≤ gb231)); clear HB; have HB := n0_; have BK231 := n1_; have GW231 := n2_; have GE231 := n3_; clear n0_ n1_ n2_ n3_; clear hb hbox hg; have hcz5_0 : w4.cell? ⟨gb231, 0, none⟩ = some (.int .i64 0) := (blk_cell BK231.out 0).trans rfl; have hcz5_1 : w4.cell? ⟨gb231, 1, none⟩ = some (.string (⟨#[]⟩ : ByteArray)) := (blk_cell BK231.out 1).trans rfl; have hcz5_2 : w4.cell? ⟨gb231, 2, none⟩ = some (.string (⟨#[]⟩ : ByteArray)) := (blk_cell BK231.out 2).trans rfl; have hfz5_0 := blk_frozen BK231.out 0; have hfz5_1 := blk_frozen BK231.out 1; have hfz5_2 := blk_frozen BK231.out 2))
    refine bodyPost_ret (results_ct rfl _ _ gb231 65 #[.int .i64 0, .string (⟨#[]⟩ : ByteArray), .string (⟨#[]⟩ : ByteArray)] (0, 0) _ rfl (by (with_reducible repeat (first | refine blk_drewN ?_ _ | refine blk_drew ?_ | refine blk_alloc ?_ _)); refine blk_put (cs := #[.int .i64 0, .string (⟨#[]⟩ : ByteArray), .string (⟨#[]⟩ : ByteArray)]) ?_ 2 _ rfl; (with_reducible repeat (first | refine blk_drewN ?_ _ | refine blk_drew ?_ | refine blk_alloc ?_ _)); refine blk_put (cs := #[.int .i64 0, .string (⟨#[]⟩ : ByteArray), .string (⟨#[]⟩ : ByteArray)]) ?_ 1 _ rfl; (with_reducible repeat (first | refine blk_drewN ?_ _ | refine blk_drew ?_ | refine blk_alloc ?_ _)); refine blk_put (cs := #[.int .i64 0, .string (⟨#[]⟩ : ByteArray), .string (⟨#[]⟩ : ByteArray)]) ?_ 0 _ rfl; (with_reducible repeat (first | refine blk_drewN ?_ _ | refine blk_drew ?_ | refine blk_alloc ?_ _)); exact BK231.out) Try.underlying65 rfl (by kernel_rfl)) rfl ?_
    exact ⟨by first | rfl | (simp [errW_none, errW_some] <;> rfl) | (simp [*, errW_none, errW_some] <;> rfl), by repeat (first | (with_reducible first | exact HB.out | apply below_alloc | apply pw_below_drewN | apply below_drew1 | refine below_set ?_ GE231.out) | exact HB.out)⟩
  · rw [if_neg c3] at H
    have c3b0 : decide ((l0.length : Int) ≤ a1) = false := decide_eq_false c3
    clear c3
    by_cases c6 : 0 ≤ a1
    · rw [if_pos c6] at H
      have c6b0 : decide (0 ≤ a1) = true := decide_eq_true c6
      clear c6
      by_cases c7 : a1 < (l0.length : Int)
      · rw [if_pos c7] at H
        have c7b0 : decide (a1 < (l0.length : Int)) = true := decide_eq_true c7
        clear c7
        replace H := Option.bind_eq_some_iff.mp H
        obtain ⟨⟨t234, t235⟩, A80, H⟩ := H
        replace H : (if t235 ≥ 0 then (moraineref04_op.j0 k l0 t235 ((wrap64 (rd l0 a1)) != 0) (wrap64 (rd l0 a1)) t234 (⟨#[]⟩ : ByteArray)) else (moraineref04_op.j0 k l0 t235 false (wrap64 (rd l0 a1)) t234 (⟨#[]⟩ : ByteArray))) = some (r1, r2, r3, r4) := H
        have A8 := Aside0.mk A80
        clear A80
        have HC9 := Aside0.mk H
        clear H
        go_enter Try.func67, Try.ntmps67
        go_upto_region 5 with (first | ((with_reducible refine gate_dst (N := 4) rfl ?_); refine box_event ?hg (N := 4) ?hd (cs := #[.int .i64 0, .string (⟨#[]⟩ : ByteArray), .string (⟨#[]⟩ : ByteArray)]) (t := 65) ?hr ?_; (case hd => rfl); (case hg => rfl); (case hr => first | (go_simp; done) | (go_simp; rfl)); intro gb231 hg w10 hbox hb; have n0_ := Aside0.mk (below_step (by repeat (first | (with_reducible first | exact HB.out | apply below_alloc | apply pw_below_drewN | apply below_drew1) | exact HB.out)) hb); have n1_ := Aside0.mk (hbox); have n2_ := Aside0.mk ((by rw [hg]; exact (below_size (by repeat (first | (with_reducible first | exact HB.out | apply below_alloc | apply pw_below_drewN | apply below_drew1) | exact HB.out))) : w.heap.size ≤ gb231)); have n3_ := Aside0.mk ((by rw [hg]; exact (below_size (by repeat (first | (with_reducible first | exact HB.out | apply below_alloc | apply pw_below_drewN | apply below_drew1) | exact HB.out))) : w.heap.size ≤ gb231)); clear HB; have HB := n0_; have BK231 := n1_; have GW231 := n2_; have GE231 := n3_; clear n0_ n1_ n2_ n3_; clear hb hbox hg; have p232 : 0 ≤ (a1 : Int) := of_decide_eq_true (by first | (with_reducible assumption) | assumption); have q232 : a1 < (l0.length : Int) := of_decide_eq_true (by first | (with_reducible assumption) | assumption); obtain ⟨ad232, e232, hx232_0⟩ := Kd.at_int HR0.out a1 p232 q232; cases e232; replace hx232_0 := (HB.out.cell (World.block_lt_of_cell? w _ hx232_0)).trans hx232_0; replace p232 := eq_true p232; replace q232 := eq_true q232) | ((with_reducible refine gate_dst (N := 6) rfl ?_); refine box_event ?hg (N := 6) ?hd (cs := #[.int .i64 0, .string (⟨#[]⟩ : ByteArray), .string (⟨#[]⟩ : ByteArray)]) (t := 65) ?hr ?_; (case hd => rfl); (case hg => rfl); (case hr => first | (go_simp; done) | (go_simp; rfl)); intro gb233 hg w11 hbox hb; have n0_ := Aside0.mk (blk_below (g := gb231) (o := .cells #[.int .i64 0, .string (⟨#[]⟩ : ByteArray), .string (⟨#[]⟩ : ByteArray)] 65 (0, 0)) (by (with_reducible repeat (first | refine blk_drewN ?_ _ | refine blk_drew ?_ | refine blk_alloc ?_ _)); exact BK231.out) hb); have n1_ := Aside0.mk (below_step (by repeat (first | (with_reducible first | exact HB.out | apply below_alloc | apply pw_below_drewN | apply below_drew1 | refine below_set ?_ GE231.out) | exact HB.out)) hb); have n2_ := Aside0.mk (hbox); have n3_ := Aside0.mk ((by rw [hg]; exact (below_size (by repeat (first | (with_reducible first | exact HB.out | apply below_alloc | apply pw_below_drewN | apply below_drew1 | refine below_set ?_ GE231.out) | exact HB.out))) : w.heap.size ≤ gb233)); have n4_ := Aside0.mk ((by rw [hg]; exact (below_size (by repeat (first | (with_reducible first | exact HB.out | apply below_alloc | apply pw_below_drewN | apply below_drew1 | refine below_set ?_ GE231.out) | exact HB.out))) : w.heap.size ≤ gb233)); have n5_ := Aside0.mk ((by rw [hg]; exact Nat.ne_of_lt (blk_lt (g := gb231) (o := .cells #[.int .i64 0, .string (⟨#[]⟩ : ByteArray), .string (⟨#[]⟩ : ByteArray)] 65 (0, 0)) (by (with_reducible repeat (first | refine blk_drewN ?_ _ | refine blk_drew ?_ | refine blk_alloc ?_ _)); exact BK231.out)) : gb231 ≠ gb233)); have n6_ := Aside0.mk ((by rw [hg]; exact Nat.ne_of_gt (blk_lt (g := gb231) (o := .cells #[.int .i64 0, .string (⟨#[]⟩ : ByteArray), .string (⟨#[]⟩ : ByteArray)] 65 (0, 0)) (by (with_reducible repeat (first | refine blk_drewN ?_ _ | refine blk_drew ?_ | refine blk_alloc ?_ _)); exact BK231.out)) : gb233 ≠ gb231)); clear BK231; clear HB; have BK231 := n0_; have HB := n1_; have BK233 := n2_; have GW233 := n3_; have GE233 := n4_; have NB231_233 := n5_; have NB233_231 := n6_; clear n0_ n1_ n2_ n3_ n4_ n5_ n6_; clear hb hbox hg; have hnb12 := NB233_231.out; have hnc12 := NB231_233.out; have hcz13_0 : w11.cell? ⟨gb233, 0, none⟩ = some (.int .i64 0) := (blk_cell BK233.out 0).trans rfl; have hcz13_1 : w11.cell? ⟨gb233, 1, none⟩ = some (.string (⟨#[]⟩ : ByteArray)) := (blk_cell BK233.out 1).trans rfl; have hcz13_2 : w11.cell? ⟨gb233, 2, none⟩ = some (.string (⟨#[]⟩ : ByteArray)) := (blk_cell BK233.out 2).trans rfl; have hfz13_0 := blk_frozen BK233.out 0; have hfz13_1 := blk_frozen BK233.out 1; have hfz13_2 := blk_frozen BK233.out 2) | ((with_reducible refine gate_callee (f := 79) rfl ?_); refine goesL_ (some 22) rfl rfl Try.func79 (by kernel_rfl) rfl #[.slice (some ad232) l0.length c0, .int .i64 (wrap64 (a1 + 1)), .int .i64 1024] rfl (by (try simp only [List.map_toArray, List.map_cons, List.map_nil]); first | done | rfl | (simp only [List.length_drop, List.length_take]; rfl)) ?_; (with_reducible refine (moraineref04_read.calls k _ _ l0 (wrap64 (a1 + 1)) 1024 t234 t235 _ ?side1 ?side2 A8.out).mono ?_); (case side1 => exact Kd.C_below HR0.out (by repeat (first | (with_reducible first | exact HB.out | apply below_alloc | apply pw_below_drewN | apply below_drew1 | refine below_set ?_ GE231.out | refine below_set ?_ GE233.out) | exact HB.out))); (case side2 => exact HC0.out); rintro e w' ⟨rfl, ⟨nd, rfl⟩⟩; refine ⟨_, rfl, ?_⟩))
        (try simp only [Act.put, List.setIfInBounds_toArray, List.set_cons_zero, List.set_cons_succ])
        go_cut [32] (fun v32 wc => ∃ (kq : Nat) (x32_8 : Bool), v32 = .bool x32_8 ∧ Aside0 (moraineref04_op.j0 kq l0 t235 x32_8 (wrap64 (rd l0 a1)) t234 (⟨#[]⟩ : ByteArray) = some (r1, r2, r3, r4)) ∧ Aside0 (kq ≤ k) ∧ Aside0 (wc.heap[gb231]? = some (.cells #[.int .i64 0, .string (⟨#[]⟩ : ByteArray), .string (⟨#[]⟩ : ByteArray)] 65 (0, 0))) ∧ Aside0 (wc.heap[gb233]? = some (.cells #[.int .i64 (wrap64 (rd l0 a1)), .string t234, .string (⟨#[]⟩ : ByteArray)] 65 (0, 0))) ∧ Aside0 (Below w.heap.size w wc))
        case first =>
          have H := HC9.out
          clear HC9
          by_cases c14 : t235 ≥ 0
          · rw [if_pos c14] at H
            have c14b0 : decide (0 ≤ t235) = true := decide_eq_true c14
            clear c14
            (first | rw [c14b0] | (simp only [i64_w, i32_w]; rw [c14b0]) | skip)
            have H' := Aside0.mk H
            clear H
            have hnb15 := NB233_231.out
            have hnc15 := NB231_233.out
            have hcz16_0 : w11.cell? ⟨gb233, 0, none⟩ = some (.int .i64 0) := (blk_cell BK233.out 0).trans rfl
            have hcz16_1 : w11.cell? ⟨gb233, 1, none⟩ = some (.string (⟨#[]⟩ : ByteArray)) := (blk_cell BK233.out 1).trans rfl
            have hcz16_2 : w11.cell? ⟨gb233, 2, none⟩ = some (.string (⟨#[]⟩ : ByteArray)) := (blk_cell BK233.out 2).trans rfl
            have hfz16_0 := blk_frozen BK233.out 0
            have hfz16_1 := blk_frozen BK233.out 1
            have hfz16_2 := blk_frozen BK233.out 2
            go_wp2
            go_meet
            case rel => exact ⟨_, (((wrap64 (rd l0 a1)) != 0)), (by first | rfl | (simp; done) | (simp [*]; done)), H', ⟨by first | omega | exact Nat.le_refl _⟩, ⟨by (with_reducible repeat (first | refine blk_drewN ?_ _ | refine blk_drew ?_ | refine blk_alloc ?_ _)); refine blk_far ?_ NB231_233.out _; (with_reducible repeat (first | refine blk_drewN ?_ _ | refine blk_drew ?_ | refine blk_alloc ?_ _)); refine blk_far ?_ NB231_233.out _; (with_reducible repeat (first | refine blk_drewN ?_ _ | refine blk_drew ?_ | refine blk_alloc ?_ _)); refine blk_far ?_ NB231_233.out _; (with_reducible repeat (first | refine blk_drewN ?_ _ | refine blk_drew ?_ | refine blk_alloc ?_ _)); refine blk_far ?_ NB231_233.out _; (with_reducible repeat (first | refine blk_drewN ?_ _ | refine blk_drew ?_ | refine blk_alloc ?_ _)); exact BK231.out⟩, ⟨by (with_reducible repeat (first | refine blk_drewN ?_ _ | refine blk_drew ?_ | refine blk_alloc ?_ _)); refine blk_put (cs := #[.int .i64 (wrap64 (rd l0 a1)), .string (⟨#[]⟩ : ByteArray), .string (⟨#[]⟩ : ByteArray)]) ?_ 1 _ rfl; (with_reducible repeat (first | refine blk_drewN ?_ _ | refine blk_drew ?_ | refine blk_alloc ?_ _)); refine blk_put (cs := #[.int .i64 (wrap64 (rd l0 a1)), .string (⟨#[]⟩ : ByteArray), .string (⟨#[]⟩ : ByteArray)]) ?_ 2 _ rfl; (with_reducible repeat (first | refine blk_drewN ?_ _ | refine blk_drew ?_ | refine blk_alloc ?_ _)); refine blk_put (cs := #[.int .i64 (wrap64 (rd l0 a1)), .string (⟨#[]⟩ : ByteArray), .string (⟨#[]⟩ : ByteArray)]) ?_ 1 _ rfl; (with_reducible repeat (first | refine blk_drewN ?_ _ | refine blk_drew ?_ | refine blk_alloc ?_ _)); refine blk_put (cs := #[.int .i64 0, .string (⟨#[]⟩ : ByteArray), .string (⟨#[]⟩ : ByteArray)]) ?_ 0 _ rfl; (with_reducible repeat (first | refine blk_drewN ?_ _ | refine blk_drew ?_ | refine blk_alloc ?_ _)); exact BK233.out⟩, ⟨by repeat (first | (with_reducible first | exact HB.out | apply below_alloc | apply pw_below_drewN | apply below_drew1 | refine below_set ?_ GE231.out | refine below_set ?_ GE233.out) | exact HB.out)⟩⟩
          · rw [if_neg c14] at H
            have c14b0 : decide (0 ≤ t235) = false := decide_eq_false c14
            clear c14
            (first | rw [c14b0] | (simp only [i64_w, i32_w]; rw [c14b0]) | skip)
            have H' := Aside0.mk H
            clear H
            go_wp2
            go_meet
            case rel => exact ⟨_, (false), (by first | rfl | (simp; done) | (simp [*]; done)), H', ⟨by first | omega | exact Nat.le_refl _⟩, ⟨by (with_reducible repeat (first | refine blk_drewN ?_ _ | refine blk_drew ?_ | refine blk_alloc ?_ _)); refine blk_far ?_ NB231_233.out _; (with_reducible repeat (first | refine blk_drewN ?_ _ | refine blk_drew ?_ | refine blk_alloc ?_ _)); refine blk_far ?_ NB231_233.out _; (with_reducible repeat (first | refine blk_drewN ?_ _ | refine blk_drew ?_ | refine blk_alloc ?_ _)); refine blk_far ?_ NB231_233.out _; (with_reducible repeat (first | refine blk_drewN ?_ _ | refine blk_drew ?_ | refine blk_alloc ?_ _)); refine blk_far ?_ NB231_233.out _; (with_reducible repeat (first | refine blk_drewN ?_ _ | refine blk_drew ?_ | refine blk_alloc ?_ _)); exact BK231.out⟩, ⟨by (with_reducible repeat (first | refine blk_drewN ?_ _ | refine blk_drew ?_ | refine blk_alloc ?_ _)); refine blk_put (cs := #[.int .i64 (wrap64 (rd l0 a1)), .string (⟨#[]⟩ : ByteArray), .string (⟨#[]⟩ : ByteArray)]) ?_ 1 _ rfl; (with_reducible repeat (first | refine blk_drewN ?_ _ | refine blk_drew ?_ | refine blk_alloc ?_ _)); refine blk_put (cs := #[.int .i64 (wrap64 (rd l0 a1)), .string (⟨#[]⟩ : ByteArray), .string (⟨#[]⟩ : ByteArray)]) ?_ 2 _ rfl; (with_reducible repeat (first | refine blk_drewN ?_ _ | refine blk_drew ?_ | refine blk_alloc ?_ _)); refine blk_put (cs := #[.int .i64 (wrap64 (rd l0 a1)), .string (⟨#[]⟩ : ByteArray), .string (⟨#[]⟩ : ByteArray)]) ?_ 1 _ rfl; (with_reducible repeat (first | refine blk_drewN ?_ _ | refine blk_drew ?_ | refine blk_alloc ?_ _)); refine blk_put (cs := #[.int .i64 0, .string (⟨#[]⟩ : ByteArray), .string (⟨#[]⟩ : ByteArray)]) ?_ 0 _ rfl; (with_reducible repeat (first | refine blk_drewN ?_ _ | refine blk_drew ?_ | refine blk_alloc ?_ _)); exact BK233.out⟩, ⟨by repeat (first | (with_reducible first | exact HB.out | apply below_alloc | apply pw_below_drewN | apply below_drew1 | refine below_set ?_ GE231.out | refine below_set ?_ GE233.out) | exact HB.out)⟩⟩
        case rest =>
          clear HC9
          try clear c1
          try clear p2
          try clear q2
          try clear hx2
          try clear c3
          try clear c3b0
          try clear c6
          try clear c6b0
          try clear p6
          try clear c7
          try clear c7b0
          try clear c12
          try clear c14
          try clear c14b0
          try clear c15
          try clear hcz13_0
          try clear hcz13_1
          try clear hcz13_2
          try clear hcz16_0
          try clear hcz16_1
          try clear hcz16_2
          try clear hcz5_0
          try clear hcz5_1
          try clear hcz5_2
          try clear hfz13_0
          try clear hfz13_1
          try clear hfz13_2
          try clear hfz16_0
          try clear hfz16_1
          try clear hfz16_2
          try clear hfz5_0
          try clear hfz5_1
          try clear hfz5_2
          try clear hx232_0
          try clear p232
          try clear q232
          obtain ⟨kq, x32_8, rfl, HA, HJ8, BK231, BK233, HB⟩ := hcut
          cases kq with
          | zero => exact absurd HA.out (by simp [moraineref04_op.j0])
          | succ kj8 =>
            have H := HA.out
            clear HA
            simp only [moraineref04_op.j0] at H
            by_cases c17 : x32_8 = true
            · subst c17
              have H1 : ((moraineref04_read.f kj8 l0 t235 65536).bind fun bt236 => (if bt236.2 < 0 then (some (0, (⟨#[]⟩ : ByteArray), (⟨#[]⟩ : ByteArray), (-1))) else ((moraineref04_May.f kj8 (wrap64 (rd l0 a1)) t234 bt236.1).bind fun t238 => (if t238 = true then (some ((wrap64 (rd l0 a1)), t234, bt236.1, bt236.2)) else (some (0, (⟨#[]⟩ : ByteArray), (⟨#[]⟩ : ByteArray), (-1))))))) = some (r1, r2, r3, r4) := by rw [if_pos rfl] at H; exact H
              clear H
              have H := H1
              clear H1
              replace H := Option.bind_eq_some_iff.mp H
              obtain ⟨⟨t236, t237⟩, A180, H⟩ := H
              replace H : (if t237 < 0 then (some (0, (⟨#[]⟩ : ByteArray), (⟨#[]⟩ : ByteArray), (-1))) else ((moraineref04_May.f kj8 (wrap64 (rd l0 a1)) t234 t236).bind fun t238 => (if t238 = true then (some ((wrap64 (rd l0 a1)), t234, t236, t237)) else (some (0, (⟨#[]⟩ : ByteArray), (⟨#[]⟩ : ByteArray), (-1)))))) = some (r1, r2, r3, r4) := H
              have A18 := Aside0.mk A180
              clear A180
              by_cases c19 : t237 < 0
              · rw [if_pos c19] at H
                have c19b0 : decide (t237 < 0) = true := decide_eq_true c19
                clear c19
                simp only [Option.some.injEq, Prod.mk.injEq] at H
                obtain ⟨rfl, rfl, rfl, rfl⟩ := H
                go_wp2_with (first | ((with_reducible refine gate_callee (f := 79) rfl ?_); refine goesL_ (some 36) rfl rfl Try.func79 (by kernel_rfl) rfl #[.slice (some ad232) l0.length c0, .int .i64 t235, .int .i64 65536] rfl (by (try simp only [List.map_toArray, List.map_cons, List.map_nil]); first | done | rfl | (simp only [List.length_drop, List.length_take]; rfl)) ?_; (with_reducible refine (moraineref04_read.calls kj8 _ _ l0 t235 65536 t236 t237 _ ?side1 ?side2 A18.out).mono ?_); (case side1 => repeat (first | exact (Kd.C_below HR0.out HB.out) | (with_reducible refine Kd.C_alloc ?_ _) | (with_reducible refine Kd.C_drewN ?_ _) | (with_reducible refine Kd.C_drew ?_))); (case side2 => exact HC0.out); rintro e w' ⟨rfl, ⟨nd, rfl⟩⟩; refine ⟨_, rfl, ?_⟩; (try (rw [drewN_self wc]; generalize hq_ : World.drewN wc _ = wc; have n0_ : Aside0 (wc.heap[gb231]? = some (.cells #[.int .i64 0, .string (⟨#[]⟩ : ByteArray), .string (⟨#[]⟩ : ByteArray)] 65 (0, 0))) := ⟨by rw [← hq_]; exact (by (with_reducible repeat (first | refine blk_drewN ?_ _ | refine blk_drew ?_ | refine blk_alloc ?_ _)); exact BK231.out)⟩; have n1_ : Aside0 (wc.heap[gb233]? = some (.cells #[.int .i64 (wrap64 (rd l0 a1)), .string t234, .string (⟨#[]⟩ : ByteArray)] 65 (0, 0))) := ⟨by rw [← hq_]; exact (by (with_reducible repeat (first | refine blk_drewN ?_ _ | refine blk_drew ?_ | refine blk_alloc ?_ _)); exact BK233.out)⟩; have n2_ : Aside0 (Below w.heap.size w wc) := ⟨by rw [← hq_]; exact (by repeat (first | (with_reducible first | exact HB.out | apply below_alloc | apply pw_below_drewN | apply below_drew1 | refine below_set ?_ GE231.out | refine below_set ?_ GE233.out) | exact HB.out))⟩; clear BK231 BK233 HB hq_; have BK231 := n0_; have BK233 := n1_; have HB := n2_; clear n0_ n1_ n2_)); have hnb20 := NB233_231.out; have hnc20 := NB231_233.out; have hcz21_0 : wc.cell? ⟨gb233, 0, none⟩ = some (.int .i64 (wrap64 (rd l0 a1))) := (blk_cell BK233.out 0).trans rfl; have hcz21_1 : wc.cell? ⟨gb233, 1, none⟩ = some (.string t234) := (blk_cell BK233.out 1).trans rfl; have hcz21_2 : wc.cell? ⟨gb233, 2, none⟩ = some (.string (⟨#[]⟩ : ByteArray)) := (blk_cell BK233.out 2).trans rfl; have hfz21_0 := blk_frozen BK233.out 0; have hfz21_1 := blk_frozen BK233.out 1; have hfz21_2 := blk_frozen BK233.out 2; have hcz22_0 : wc.cell? ⟨gb231, 0, none⟩ = some (.int .i64 0) := (blk_cell BK231.out 0).trans rfl; have hcz22_1 : wc.cell? ⟨gb231, 1, none⟩ = some (.string (⟨#[]⟩ : ByteArray)) := (blk_cell BK231.out 1).trans rfl; have hcz22_2 : wc.cell? ⟨gb231, 2, none⟩ = some (.string (⟨#[]⟩ : ByteArray)) := (blk_cell BK231.out 2).trans rfl; have hfz22_0 := blk_frozen BK231.out 0; have hfz22_1 := blk_frozen BK231.out 1; have hfz22_2 := blk_frozen BK231.out 2))
                refine bodyPost_ret (results_ct rfl _ _ gb231 65 #[.int .i64 0, .string (⟨#[]⟩ : ByteArray), .string (⟨#[]⟩ : ByteArray)] (0, 0) _ rfl (by (with_reducible repeat (first | refine blk_drewN ?_ _ | refine blk_drew ?_ | refine blk_alloc ?_ _)); refine blk_put (cs := #[.int .i64 0, .string (⟨#[]⟩ : ByteArray), .string (⟨#[]⟩ : ByteArray)]) ?_ 2 _ rfl; (with_reducible repeat (first | refine blk_drewN ?_ _ | refine blk_drew ?_ | refine blk_alloc ?_ _)); refine blk_put (cs := #[.int .i64 0, .string (⟨#[]⟩ : ByteArray), .string (⟨#[]⟩ : ByteArray)]) ?_ 1 _ rfl; (with_reducible repeat (first | refine blk_drewN ?_ _ | refine blk_drew ?_ | refine blk_alloc ?_ _)); refine blk_put (cs := #[.int .i64 0, .string (⟨#[]⟩ : ByteArray), .string (⟨#[]⟩ : ByteArray)]) ?_ 0 _ rfl; (with_reducible repeat (first | refine blk_drewN ?_ _ | refine blk_drew ?_ | refine blk_alloc ?_ _)); refine blk_far ?_ NB231_233.out _; (with_reducible repeat (first | refine blk_drewN ?_ _ | refine blk_drew ?_ | refine blk_alloc ?_ _)); exact BK231.out) Try.underlying65 rfl (by kernel_rfl)) rfl ?_
                exact ⟨by first | rfl | (simp [errW_none, errW_some] <;> rfl) | (simp [*, errW_none, errW_some] <;> rfl), by repeat (first | (with_reducible first | exact HB.out | apply below_alloc | apply pw_below_drewN | apply below_drew1 | refine below_set ?_ GE231.out | refine below_set ?_ GE233.out) | exact HB.out)⟩
              · rw [if_neg c19] at H
                have c19b0 : decide (t237 < 0) = false := decide_eq_false c19
                clear c19
                replace H := Option.bind_eq_some_iff.mp H
                obtain ⟨t238, A230, H⟩ := H
                replace H : (if t238 = true then (some ((wrap64 (rd l0 a1)), t234, t236, t237)) else (some (0, (⟨#[]⟩ : ByteArray), (⟨#[]⟩ : ByteArray), (-1)))) = some (r1, r2, r3, r4) := H
                have A23 := Aside0.mk A230
                clear A230
                by_cases c24 : t238 = true
                · subst c24
                  have H1 : (some ((wrap64 (rd l0 a1)), t234, t236, t237)) = some (r1, r2, r3, r4) := by rw [if_pos rfl] at H; exact H
                  clear H
                  have H := H1
                  clear H1
                  simp only [Option.some.injEq, Prod.mk.injEq] at H
                  obtain ⟨rfl, rfl, rfl, rfl⟩ := H
                  go_wp2_with (first | ((with_reducible refine gate_callee (f := 79) rfl ?_); refine goesL_ (some 36) rfl rfl Try.func79 (by kernel_rfl) rfl #[.slice (some ad232) l0.length c0, .int .i64 t235, .int .i64 65536] rfl (by (try simp only [List.map_toArray, List.map_cons, List.map_nil]); first | done | rfl | (simp only [List.length_drop, List.length_take]; rfl)) ?_; (with_reducible refine (moraineref04_read.calls kj8 _ _ l0 t235 65536 t236 t237 _ ?side1 ?side2 A18.out).mono ?_); (case side1 => repeat (first | exact (Kd.C_below HR0.out HB.out) | (with_reducible refine Kd.C_alloc ?_ _) | (with_reducible refine Kd.C_drewN ?_ _) | (with_reducible refine Kd.C_drew ?_))); (case side2 => exact HC0.out); rintro e w' ⟨rfl, ⟨nd, rfl⟩⟩; refine ⟨_, rfl, ?_⟩; (try (rw [drewN_self wc]; generalize hq_ : World.drewN wc _ = wc; have n0_ : Aside0 (wc.heap[gb231]? = some (.cells #[.int .i64 0, .string (⟨#[]⟩ : ByteArray), .string (⟨#[]⟩ : ByteArray)] 65 (0, 0))) := ⟨by rw [← hq_]; exact (by (with_reducible repeat (first | refine blk_drewN ?_ _ | refine blk_drew ?_ | refine blk_alloc ?_ _)); exact BK231.out)⟩; have n1_ : Aside0 (wc.heap[gb233]? = some (.cells #[.int .i64 (wrap64 (rd l0 a1)), .string t234, .string (⟨#[]⟩ : ByteArray)] 65 (0, 0))) := ⟨by rw [← hq_]; exact (by (with_reducible repeat (first | refine blk_drewN ?_ _ | refine blk_drew ?_ | refine blk_alloc ?_ _)); exact BK233.out)⟩; have n2_ : Aside0 (Below w.heap.size w wc) := ⟨by rw [← hq_]; exact (by repeat (first | (with_reducible first | exact HB.out | apply below_alloc | apply pw_below_drewN | apply below_drew1 | refine below_set ?_ GE231.out | refine below_set ?_ GE233.out) | exact HB.out))⟩; clear BK231 BK233 HB hq_; have BK231 := n0_; have BK233 := n1_; have HB := n2_; clear n0_ n1_ n2_)); have hnb25 := NB233_231.out; have hnc25 := NB231_233.out; have hcz26_0 : wc.cell? ⟨gb233, 0, none⟩ = some (.int .i64 (wrap64 (rd l0 a1))) := (blk_cell BK233.out 0).trans rfl; have hcz26_1 : wc.cell? ⟨gb233, 1, none⟩ = some (.string t234) := (blk_cell BK233.out 1).trans rfl; have hcz26_2 : wc.cell? ⟨gb233, 2, none⟩ = some (.string (⟨#[]⟩ : ByteArray)) := (blk_cell BK233.out 2).trans rfl; have hfz26_0 := blk_frozen BK233.out 0; have hfz26_1 := blk_frozen BK233.out 1; have hfz26_2 := blk_frozen BK233.out 2) | (go_at_call 51; (with_reducible refine (moraineref04_May.calls kj8 (wrap64 (rd l0 a1)) t234 t236 true _ A23.out).mono ?_); rintro e w27 ⟨rfl, hb⟩; have n0_ := Aside0.mk (blk_below (g := gb231) (o := .cells #[.int .i64 0, .string (⟨#[]⟩ : ByteArray), .string (⟨#[]⟩ : ByteArray)] 65 (0, 0)) (by (with_reducible repeat (first | refine blk_drewN ?_ _ | refine blk_drew ?_ | refine blk_alloc ?_ _)); refine blk_far ?_ NB231_233.out _; (with_reducible repeat (first | refine blk_drewN ?_ _ | refine blk_drew ?_ | refine blk_alloc ?_ _)); exact BK231.out) hb); have n1_ := Aside0.mk (blk_below (g := gb233) (o := .cells #[.int .i64 (wrap64 (rd l0 a1)), .string t234, .string t236] 65 (0, 0)) (by (with_reducible repeat (first | refine blk_drewN ?_ _ | refine blk_drew ?_ | refine blk_alloc ?_ _)); refine blk_put (cs := #[.int .i64 (wrap64 (rd l0 a1)), .string t234, .string (⟨#[]⟩ : ByteArray)]) ?_ 2 _ rfl; (with_reducible repeat (first | refine blk_drewN ?_ _ | refine blk_drew ?_ | refine blk_alloc ?_ _)); exact BK233.out) hb); have n2_ := Aside0.mk (below_step (by repeat (first | (with_reducible first | exact HB.out | apply below_alloc | apply pw_below_drewN | apply below_drew1 | refine below_set ?_ GE231.out | refine below_set ?_ GE233.out) | exact HB.out)) hb); clear BK231; clear BK233; clear HB; have BK231 := n0_; have BK233 := n1_; have HB := n2_; clear n0_ n1_ n2_; (try clear hb); (try clear hb2); (try clear hk); (try clear hi); have hcz28_0 : w27.cell? ⟨gb233, 0, none⟩ = some (.int .i64 (wrap64 (rd l0 a1))) := (blk_cell BK233.out 0).trans rfl; have hcz28_1 : w27.cell? ⟨gb233, 1, none⟩ = some (.string t234) := (blk_cell BK233.out 1).trans rfl; have hcz28_2 : w27.cell? ⟨gb233, 2, none⟩ = some (.string t236) := (blk_cell BK233.out 2).trans rfl; have hfz28_0 := blk_frozen BK233.out 0; have hfz28_1 := blk_frozen BK233.out 1; have hfz28_2 := blk_frozen BK233.out 2; have hcz29_0 : w27.cell? ⟨gb231, 0, none⟩ = some (.int .i64 0) := (blk_cell BK231.out 0).trans rfl; have hcz29_1 : w27.cell? ⟨gb231, 1, none⟩ = some (.string (⟨#[]⟩ : ByteArray)) := (blk_cell BK231.out 1).trans rfl; have hcz29_2 : w27.cell? ⟨gb231, 2, none⟩ = some (.string (⟨#[]⟩ : ByteArray)) := (blk_cell BK231.out 2).trans rfl; have hfz29_0 := blk_frozen BK231.out 0; have hfz29_1 := blk_frozen BK231.out 1; have hfz29_2 := blk_frozen BK231.out 2))
                  refine bodyPost_ret (results_ct rfl _ _ gb231 65 #[.int .i64 (wrap64 (rd l0 a1)), .string t234, .string t236] (0, 0) _ rfl (by (with_reducible repeat (first | refine blk_drewN ?_ _ | refine blk_drew ?_ | refine blk_alloc ?_ _)); refine blk_put (cs := #[.int .i64 (wrap64 (rd l0 a1)), .string t234, .string (⟨#[]⟩ : ByteArray)]) ?_ 2 _ rfl; (with_reducible repeat (first | refine blk_drewN ?_ _ | refine blk_drew ?_ | refine blk_alloc ?_ _)); refine blk_put (cs := #[.int .i64 (wrap64 (rd l0 a1)), .string (⟨#[]⟩ : ByteArray), .string (⟨#[]⟩ : ByteArray)]) ?_ 1 _ rfl; (with_reducible repeat (first | refine blk_drewN ?_ _ | refine blk_drew ?_ | refine blk_alloc ?_ _)); refine blk_put (cs := #[.int .i64 0, .string (⟨#[]⟩ : ByteArray), .string (⟨#[]⟩ : ByteArray)]) ?_ 0 _ rfl; (with_reducible repeat (first | refine blk_drewN ?_ _ | refine blk_drew ?_ | refine blk_alloc ?_ _)); exact BK231.out) Try.underlying65 rfl (by kernel_rfl)) rfl ?_
                  exact ⟨by first | rfl | (simp [errW_none, errW_some] <;> rfl) | (simp [*, errW_none, errW_some] <;> rfl), by repeat (first | (with_reducible first | exact HB.out | apply below_alloc | apply pw_below_drewN | apply below_drew1 | refine below_set ?_ GE231.out | refine below_set ?_ GE233.out) | exact HB.out)⟩
                · replace c24 := Bool.eq_false_iff.mpr c24
                  subst c24
                  have H1 : (some (0, (⟨#[]⟩ : ByteArray), (⟨#[]⟩ : ByteArray), (-1))) = some (r1, r2, r3, r4) := by rw [if_neg (show ¬ (false = true) by decide)] at H; exact H
                  clear H
                  have H := H1
                  clear H1
                  simp only [Option.some.injEq, Prod.mk.injEq] at H
                  obtain ⟨rfl, rfl, rfl, rfl⟩ := H
                  go_wp2_with (first | ((with_reducible refine gate_callee (f := 79) rfl ?_); refine goesL_ (some 36) rfl rfl Try.func79 (by kernel_rfl) rfl #[.slice (some ad232) l0.length c0, .int .i64 t235, .int .i64 65536] rfl (by (try simp only [List.map_toArray, List.map_cons, List.map_nil]); first | done | rfl | (simp only [List.length_drop, List.length_take]; rfl)) ?_; (with_reducible refine (moraineref04_read.calls kj8 _ _ l0 t235 65536 t236 t237 _ ?side1 ?side2 A18.out).mono ?_); (case side1 => repeat (first | exact (Kd.C_below HR0.out HB.out) | (with_reducible refine Kd.C_alloc ?_ _) | (with_reducible refine Kd.C_drewN ?_ _) | (with_reducible refine Kd.C_drew ?_))); (case side2 => exact HC0.out); rintro e w' ⟨rfl, ⟨nd, rfl⟩⟩; refine ⟨_, rfl, ?_⟩; (try (rw [drewN_self wc]; generalize hq_ : World.drewN wc _ = wc; have n0_ : Aside0 (wc.heap[gb231]? = some (.cells #[.int .i64 0, .string (⟨#[]⟩ : ByteArray), .string (⟨#[]⟩ : ByteArray)] 65 (0, 0))) := ⟨by rw [← hq_]; exact (by (with_reducible repeat (first | refine blk_drewN ?_ _ | refine blk_drew ?_ | refine blk_alloc ?_ _)); exact BK231.out)⟩; have n1_ : Aside0 (wc.heap[gb233]? = some (.cells #[.int .i64 (wrap64 (rd l0 a1)), .string t234, .string (⟨#[]⟩ : ByteArray)] 65 (0, 0))) := ⟨by rw [← hq_]; exact (by (with_reducible repeat (first | refine blk_drewN ?_ _ | refine blk_drew ?_ | refine blk_alloc ?_ _)); exact BK233.out)⟩; have n2_ : Aside0 (Below w.heap.size w wc) := ⟨by rw [← hq_]; exact (by repeat (first | (with_reducible first | exact HB.out | apply below_alloc | apply pw_below_drewN | apply below_drew1 | refine below_set ?_ GE231.out | refine below_set ?_ GE233.out) | exact HB.out))⟩; clear BK231 BK233 HB hq_; have BK231 := n0_; have BK233 := n1_; have HB := n2_; clear n0_ n1_ n2_)); have hnb30 := NB233_231.out; have hnc30 := NB231_233.out; have hcz31_0 : wc.cell? ⟨gb233, 0, none⟩ = some (.int .i64 (wrap64 (rd l0 a1))) := (blk_cell BK233.out 0).trans rfl; have hcz31_1 : wc.cell? ⟨gb233, 1, none⟩ = some (.string t234) := (blk_cell BK233.out 1).trans rfl; have hcz31_2 : wc.cell? ⟨gb233, 2, none⟩ = some (.string (⟨#[]⟩ : ByteArray)) := (blk_cell BK233.out 2).trans rfl; have hfz31_0 := blk_frozen BK233.out 0; have hfz31_1 := blk_frozen BK233.out 1; have hfz31_2 := blk_frozen BK233.out 2) | (go_at_call 51; (with_reducible refine (moraineref04_May.calls kj8 (wrap64 (rd l0 a1)) t234 t236 false _ A23.out).mono ?_); rintro e w32 ⟨rfl, hb⟩; have n0_ := Aside0.mk (blk_below (g := gb231) (o := .cells #[.int .i64 0, .string (⟨#[]⟩ : ByteArray), .string (⟨#[]⟩ : ByteArray)] 65 (0, 0)) (by (with_reducible repeat (first | refine blk_drewN ?_ _ | refine blk_drew ?_ | refine blk_alloc ?_ _)); refine blk_far ?_ NB231_233.out _; (with_reducible repeat (first | refine blk_drewN ?_ _ | refine blk_drew ?_ | refine blk_alloc ?_ _)); exact BK231.out) hb); have n1_ := Aside0.mk (blk_below (g := gb233) (o := .cells #[.int .i64 (wrap64 (rd l0 a1)), .string t234, .string t236] 65 (0, 0)) (by (with_reducible repeat (first | refine blk_drewN ?_ _ | refine blk_drew ?_ | refine blk_alloc ?_ _)); refine blk_put (cs := #[.int .i64 (wrap64 (rd l0 a1)), .string t234, .string (⟨#[]⟩ : ByteArray)]) ?_ 2 _ rfl; (with_reducible repeat (first | refine blk_drewN ?_ _ | refine blk_drew ?_ | refine blk_alloc ?_ _)); exact BK233.out) hb); have n2_ := Aside0.mk (below_step (by repeat (first | (with_reducible first | exact HB.out | apply below_alloc | apply pw_below_drewN | apply below_drew1 | refine below_set ?_ GE231.out | refine below_set ?_ GE233.out) | exact HB.out)) hb); clear BK231; clear BK233; clear HB; have BK231 := n0_; have BK233 := n1_; have HB := n2_; clear n0_ n1_ n2_; (try clear hb); (try clear hb2); (try clear hk); (try clear hi); have hcz33_0 : w32.cell? ⟨gb231, 0, none⟩ = some (.int .i64 0) := (blk_cell BK231.out 0).trans rfl; have hcz33_1 : w32.cell? ⟨gb231, 1, none⟩ = some (.string (⟨#[]⟩ : ByteArray)) := (blk_cell BK231.out 1).trans rfl; have hcz33_2 : w32.cell? ⟨gb231, 2, none⟩ = some (.string (⟨#[]⟩ : ByteArray)) := (blk_cell BK231.out 2).trans rfl; have hfz33_0 := blk_frozen BK231.out 0; have hfz33_1 := blk_frozen BK231.out 1; have hfz33_2 := blk_frozen BK231.out 2))
                  refine bodyPost_ret (results_ct rfl _ _ gb231 65 #[.int .i64 0, .string (⟨#[]⟩ : ByteArray), .string (⟨#[]⟩ : ByteArray)] (0, 0) _ rfl (by (with_reducible repeat (first | refine blk_drewN ?_ _ | refine blk_drew ?_ | refine blk_alloc ?_ _)); refine blk_put (cs := #[.int .i64 0, .string (⟨#[]⟩ : ByteArray), .string (⟨#[]⟩ : ByteArray)]) ?_ 2 _ rfl; (with_reducible repeat (first | refine blk_drewN ?_ _ | refine blk_drew ?_ | refine blk_alloc ?_ _)); refine blk_put (cs := #[.int .i64 0, .string (⟨#[]⟩ : ByteArray), .string (⟨#[]⟩ : ByteArray)]) ?_ 1 _ rfl; (with_reducible repeat (first | refine blk_drewN ?_ _ | refine blk_drew ?_ | refine blk_alloc ?_ _)); refine blk_put (cs := #[.int .i64 0, .string (⟨#[]⟩ : ByteArray), .string (⟨#[]⟩ : ByteArray)]) ?_ 0 _ rfl; (with_reducible repeat (first | refine blk_drewN ?_ _ | refine blk_drew ?_ | refine blk_alloc ?_ _)); exact BK231.out) Try.underlying65 rfl (by kernel_rfl)) rfl ?_
                  exact ⟨by first | rfl | (simp [errW_none, errW_some] <;> rfl) | (simp [*, errW_none, errW_some] <;> rfl), by repeat (first | (with_reducible first | exact HB.out | apply below_alloc | apply pw_below_drewN | apply below_drew1 | refine below_set ?_ GE231.out | refine below_set ?_ GE233.out) | exact HB.out)⟩
            · replace c17 := Bool.eq_false_iff.mpr c17
              subst c17
              have H1 : (if t235 < 0 then (some (0, (⟨#[]⟩ : ByteArray), (⟨#[]⟩ : ByteArray), (-1))) else ((moraineref04_May.f kj8 (wrap64 (rd l0 a1)) t234 (⟨#[]⟩ : ByteArray)).bind fun t239 => (if t239 = true then (some ((wrap64 (rd l0 a1)), t234, (⟨#[]⟩ : ByteArray), t235)) else (some (0, (⟨#[]⟩ : ByteArray), (⟨#[]⟩ : ByteArray), (-1)))))) = some (r1, r2, r3, r4) := by rw [if_neg (show ¬ (false = true) by decide)] at H; exact H
              clear H
              have H := H1
              clear H1
              by_cases c34 : t235 < 0
              · rw [if_pos c34] at H
                have c34b0 : decide (t235 < 0) = true := decide_eq_true c34
                clear c34
                simp only [Option.some.injEq, Prod.mk.injEq] at H
                obtain ⟨rfl, rfl, rfl, rfl⟩ := H
                have hnb35 := NB231_233.out
                have hnc35 := NB233_231.out
                have hcz36_0 : wc.cell? ⟨gb231, 0, none⟩ = some (.int .i64 0) := (blk_cell BK231.out 0).trans rfl
                have hcz36_1 : wc.cell? ⟨gb231, 1, none⟩ = some (.string (⟨#[]⟩ : ByteArray)) := (blk_cell BK231.out 1).trans rfl
                have hcz36_2 : wc.cell? ⟨gb231, 2, none⟩ = some (.string (⟨#[]⟩ : ByteArray)) := (blk_cell BK231.out 2).trans rfl
                have hfz36_0 := blk_frozen BK231.out 0
                have hfz36_1 := blk_frozen BK231.out 1
                have hfz36_2 := blk_frozen BK231.out 2
                go_wp2
                refine bodyPost_ret (results_ct rfl _ _ gb231 65 #[.int .i64 0, .string (⟨#[]⟩ : ByteArray), .string (⟨#[]⟩ : ByteArray)] (0, 0) _ rfl (by (with_reducible repeat (first | refine blk_drewN ?_ _ | refine blk_drew ?_ | refine blk_alloc ?_ _)); refine blk_put (cs := #[.int .i64 0, .string (⟨#[]⟩ : ByteArray), .string (⟨#[]⟩ : ByteArray)]) ?_ 2 _ rfl; (with_reducible repeat (first | refine blk_drewN ?_ _ | refine blk_drew ?_ | refine blk_alloc ?_ _)); refine blk_put (cs := #[.int .i64 0, .string (⟨#[]⟩ : ByteArray), .string (⟨#[]⟩ : ByteArray)]) ?_ 1 _ rfl; (with_reducible repeat (first | refine blk_drewN ?_ _ | refine blk_drew ?_ | refine blk_alloc ?_ _)); refine blk_put (cs := #[.int .i64 0, .string (⟨#[]⟩ : ByteArray), .string (⟨#[]⟩ : ByteArray)]) ?_ 0 _ rfl; (with_reducible repeat (first | refine blk_drewN ?_ _ | refine blk_drew ?_ | refine blk_alloc ?_ _)); exact BK231.out) Try.underlying65 rfl (by kernel_rfl)) rfl ?_
                exact ⟨by first | rfl | (simp [errW_none, errW_some] <;> rfl) | (simp [*, errW_none, errW_some] <;> rfl), by repeat (first | (with_reducible first | exact HB.out | apply below_alloc | apply pw_below_drewN | apply below_drew1 | refine below_set ?_ GE231.out | refine below_set ?_ GE233.out) | exact HB.out)⟩
              · rw [if_neg c34] at H
                have c34b0 : decide (t235 < 0) = false := decide_eq_false c34
                clear c34
                replace H := Option.bind_eq_some_iff.mp H
                obtain ⟨t239, A370, H⟩ := H
                replace H : (if t239 = true then (some ((wrap64 (rd l0 a1)), t234, (⟨#[]⟩ : ByteArray), t235)) else (some (0, (⟨#[]⟩ : ByteArray), (⟨#[]⟩ : ByteArray), (-1)))) = some (r1, r2, r3, r4) := H
                have A37 := Aside0.mk A370
                clear A370
                by_cases c38 : t239 = true
                · subst c38
                  have H1 : (some ((wrap64 (rd l0 a1)), t234, (⟨#[]⟩ : ByteArray), t235)) = some (r1, r2, r3, r4) := by rw [if_pos rfl] at H; exact H
                  clear H
                  have H := H1
                  clear H1
                  simp only [Option.some.injEq, Prod.mk.injEq] at H
                  obtain ⟨rfl, rfl, rfl, rfl⟩ := H
                  have hnb39 := NB233_231.out
                  have hnc39 := NB231_233.out
                  have hcz40_0 : wc.cell? ⟨gb233, 0, none⟩ = some (.int .i64 (wrap64 (rd l0 a1))) := (blk_cell BK233.out 0).trans rfl
                  have hcz40_1 : wc.cell? ⟨gb233, 1, none⟩ = some (.string t234) := (blk_cell BK233.out 1).trans rfl
                  have hcz40_2 : wc.cell? ⟨gb233, 2, none⟩ = some (.string (⟨#[]⟩ : ByteArray)) := (blk_cell BK233.out 2).trans rfl
                  have hfz40_0 := blk_frozen BK233.out 0
                  have hfz40_1 := blk_frozen BK233.out 1
                  have hfz40_2 := blk_frozen BK233.out 2
                  go_wp2_with (first | (go_at_call 51; (with_reducible refine (moraineref04_May.calls kj8 (wrap64 (rd l0 a1)) t234 (⟨#[]⟩ : ByteArray) true _ A37.out).mono ?_); rintro e w41 ⟨rfl, hb⟩; have n0_ := Aside0.mk (blk_below (g := gb231) (o := .cells #[.int .i64 0, .string (⟨#[]⟩ : ByteArray), .string (⟨#[]⟩ : ByteArray)] 65 (0, 0)) (by (with_reducible repeat (first | refine blk_drewN ?_ _ | refine blk_drew ?_ | refine blk_alloc ?_ _)); exact BK231.out) hb); have n1_ := Aside0.mk (blk_below (g := gb233) (o := .cells #[.int .i64 (wrap64 (rd l0 a1)), .string t234, .string (⟨#[]⟩ : ByteArray)] 65 (0, 0)) (by (with_reducible repeat (first | refine blk_drewN ?_ _ | refine blk_drew ?_ | refine blk_alloc ?_ _)); exact BK233.out) hb); have n2_ := Aside0.mk (below_step (by repeat (first | (with_reducible first | exact HB.out | apply below_alloc | apply pw_below_drewN | apply below_drew1 | refine below_set ?_ GE231.out | refine below_set ?_ GE233.out) | exact HB.out)) hb); clear BK231; clear BK233; clear HB; have BK231 := n0_; have BK233 := n1_; have HB := n2_; clear n0_ n1_ n2_; (try clear hb); (try clear hb2); (try clear hk); (try clear hi); have hcz42_0 : w41.cell? ⟨gb233, 0, none⟩ = some (.int .i64 (wrap64 (rd l0 a1))) := (blk_cell BK233.out 0).trans rfl; have hcz42_1 : w41.cell? ⟨gb233, 1, none⟩ = some (.string t234) := (blk_cell BK233.out 1).trans rfl; have hcz42_2 : w41.cell? ⟨gb233, 2, none⟩ = some (.string (⟨#[]⟩ : ByteArray)) := (blk_cell BK233.out 2).trans rfl; have hfz42_0 := blk_frozen BK233.out 0; have hfz42_1 := blk_frozen BK233.out 1; have hfz42_2 := blk_frozen BK233.out 2; have hcz43_0 : w41.cell? ⟨gb231, 0, none⟩ = some (.int .i64 0) := (blk_cell BK231.out 0).trans rfl; have hcz43_1 : w41.cell? ⟨gb231, 1, none⟩ = some (.string (⟨#[]⟩ : ByteArray)) := (blk_cell BK231.out 1).trans rfl; have hcz43_2 : w41.cell? ⟨gb231, 2, none⟩ = some (.string (⟨#[]⟩ : ByteArray)) := (blk_cell BK231.out 2).trans rfl; have hfz43_0 := blk_frozen BK231.out 0; have hfz43_1 := blk_frozen BK231.out 1; have hfz43_2 := blk_frozen BK231.out 2))
                  refine bodyPost_ret (results_ct rfl _ _ gb231 65 #[.int .i64 (wrap64 (rd l0 a1)), .string t234, .string (⟨#[]⟩ : ByteArray)] (0, 0) _ rfl (by (with_reducible repeat (first | refine blk_drewN ?_ _ | refine blk_drew ?_ | refine blk_alloc ?_ _)); refine blk_put (cs := #[.int .i64 (wrap64 (rd l0 a1)), .string t234, .string (⟨#[]⟩ : ByteArray)]) ?_ 2 _ rfl; (with_reducible repeat (first | refine blk_drewN ?_ _ | refine blk_drew ?_ | refine blk_alloc ?_ _)); refine blk_put (cs := #[.int .i64 (wrap64 (rd l0 a1)), .string (⟨#[]⟩ : ByteArray), .string (⟨#[]⟩ : ByteArray)]) ?_ 1 _ rfl; (with_reducible repeat (first | refine blk_drewN ?_ _ | refine blk_drew ?_ | refine blk_alloc ?_ _)); refine blk_put (cs := #[.int .i64 0, .string (⟨#[]⟩ : ByteArray), .string (⟨#[]⟩ : ByteArray)]) ?_ 0 _ rfl; (with_reducible repeat (first | refine blk_drewN ?_ _ | refine blk_drew ?_ | refine blk_alloc ?_ _)); exact BK231.out) Try.underlying65 rfl (by kernel_rfl)) rfl ?_
                  exact ⟨by first | rfl | (simp [errW_none, errW_some] <;> rfl) | (simp [*, errW_none, errW_some] <;> rfl), by repeat (first | (with_reducible first | exact HB.out | apply below_alloc | apply pw_below_drewN | apply below_drew1 | refine below_set ?_ GE231.out | refine below_set ?_ GE233.out) | exact HB.out)⟩
                · replace c38 := Bool.eq_false_iff.mpr c38
                  subst c38
                  have H1 : (some (0, (⟨#[]⟩ : ByteArray), (⟨#[]⟩ : ByteArray), (-1))) = some (r1, r2, r3, r4) := by rw [if_neg (show ¬ (false = true) by decide)] at H; exact H
                  clear H
                  have H := H1
                  clear H1
                  simp only [Option.some.injEq, Prod.mk.injEq] at H
                  obtain ⟨rfl, rfl, rfl, rfl⟩ := H
                  have hnb44 := NB233_231.out
                  have hnc44 := NB231_233.out
                  have hcz45_0 : wc.cell? ⟨gb233, 0, none⟩ = some (.int .i64 (wrap64 (rd l0 a1))) := (blk_cell BK233.out 0).trans rfl
                  have hcz45_1 : wc.cell? ⟨gb233, 1, none⟩ = some (.string t234) := (blk_cell BK233.out 1).trans rfl
                  have hcz45_2 : wc.cell? ⟨gb233, 2, none⟩ = some (.string (⟨#[]⟩ : ByteArray)) := (blk_cell BK233.out 2).trans rfl
                  have hfz45_0 := blk_frozen BK233.out 0
                  have hfz45_1 := blk_frozen BK233.out 1
                  have hfz45_2 := blk_frozen BK233.out 2
                  go_wp2_with (first | (go_at_call 51; (with_reducible refine (moraineref04_May.calls kj8 (wrap64 (rd l0 a1)) t234 (⟨#[]⟩ : ByteArray) false _ A37.out).mono ?_); rintro e w46 ⟨rfl, hb⟩; have n0_ := Aside0.mk (blk_below (g := gb231) (o := .cells #[.int .i64 0, .string (⟨#[]⟩ : ByteArray), .string (⟨#[]⟩ : ByteArray)] 65 (0, 0)) (by (with_reducible repeat (first | refine blk_drewN ?_ _ | refine blk_drew ?_ | refine blk_alloc ?_ _)); exact BK231.out) hb); have n1_ := Aside0.mk (blk_below (g := gb233) (o := .cells #[.int .i64 (wrap64 (rd l0 a1)), .string t234, .string (⟨#[]⟩ : ByteArray)] 65 (0, 0)) (by (with_reducible repeat (first | refine blk_drewN ?_ _ | refine blk_drew ?_ | refine blk_alloc ?_ _)); exact BK233.out) hb); have n2_ := Aside0.mk (below_step (by repeat (first | (with_reducible first | exact HB.out | apply below_alloc | apply pw_below_drewN | apply below_drew1 | refine below_set ?_ GE231.out | refine below_set ?_ GE233.out) | exact HB.out)) hb); clear BK231; clear BK233; clear HB; have BK231 := n0_; have BK233 := n1_; have HB := n2_; clear n0_ n1_ n2_; (try clear hb); (try clear hb2); (try clear hk); (try clear hi); have hcz47_0 : w46.cell? ⟨gb231, 0, none⟩ = some (.int .i64 0) := (blk_cell BK231.out 0).trans rfl; have hcz47_1 : w46.cell? ⟨gb231, 1, none⟩ = some (.string (⟨#[]⟩ : ByteArray)) := (blk_cell BK231.out 1).trans rfl; have hcz47_2 : w46.cell? ⟨gb231, 2, none⟩ = some (.string (⟨#[]⟩ : ByteArray)) := (blk_cell BK231.out 2).trans rfl; have hfz47_0 := blk_frozen BK231.out 0; have hfz47_1 := blk_frozen BK231.out 1; have hfz47_2 := blk_frozen BK231.out 2))
                  refine bodyPost_ret (results_ct rfl _ _ gb231 65 #[.int .i64 0, .string (⟨#[]⟩ : ByteArray), .string (⟨#[]⟩ : ByteArray)] (0, 0) _ rfl (by (with_reducible repeat (first | refine blk_drewN ?_ _ | refine blk_drew ?_ | refine blk_alloc ?_ _)); refine blk_put (cs := #[.int .i64 0, .string (⟨#[]⟩ : ByteArray), .string (⟨#[]⟩ : ByteArray)]) ?_ 2 _ rfl; (with_reducible repeat (first | refine blk_drewN ?_ _ | refine blk_drew ?_ | refine blk_alloc ?_ _)); refine blk_put (cs := #[.int .i64 0, .string (⟨#[]⟩ : ByteArray), .string (⟨#[]⟩ : ByteArray)]) ?_ 1 _ rfl; (with_reducible repeat (first | refine blk_drewN ?_ _ | refine blk_drew ?_ | refine blk_alloc ?_ _)); refine blk_put (cs := #[.int .i64 0, .string (⟨#[]⟩ : ByteArray), .string (⟨#[]⟩ : ByteArray)]) ?_ 0 _ rfl; (with_reducible repeat (first | refine blk_drewN ?_ _ | refine blk_drew ?_ | refine blk_alloc ?_ _)); exact BK231.out) Try.underlying65 rfl (by kernel_rfl)) rfl ?_
                  exact ⟨by first | rfl | (simp [errW_none, errW_some] <;> rfl) | (simp [*, errW_none, errW_some] <;> rfl), by repeat (first | (with_reducible first | exact HB.out | apply below_alloc | apply pw_below_drewN | apply below_drew1 | refine below_set ?_ GE231.out | refine below_set ?_ GE233.out) | exact HB.out)⟩
      · rw [if_neg c7] at H
        exact absurd H (by simp)
    · rw [if_neg c6] at H
      exact absurd H (by simp)

end Go.Proofs.Ythkooncibfkepaa.G

/- Printed by the session's program over the kit's print, out of the translation: functions as plain Lean functions, and the proofs that the calls come to them. -/
namespace Go.Proofs.Ythkooncibfkepaa.G
open Go.RowKit Go.Proofs.YthkooncibfkepaaW.PrintWords Go.Proofs.YthkooncibfkepaaW.PrintLast Go.Proofs.YthkooncibfkepaaW.PrintMore
attribute [local go_sem] max2_int min2_int max_two min_two max_three min_three max_four min_four   -- for this text's walks alone
set_option linter.unusedVariables false
set_option linter.unusedSimpArgs false

/-! ### moraineref04_Walked: function 40 -/
def moraineref04_Walked.l0 : Nat → List Int → Int → Int → Int → List (S65) → Option (Int × (List (S65)) × Int)
  | 0, _, _, _, _, _ => none
  | k + 1, x0, x5, x6, x7, x8 => if (x8.length : Int) < x6 then ((moraineref04_op.f k x0 x7).bind fun bt242 => (if bt242.2.2.2 < 0 then (some (x5, x8, x7)) else (if x8.length < 3518437208883 then (moraineref04_Walked.l0 k x0 x5 x6 bt242.2.2.2 (x8 ++ [(⟨bt242.1, bt242.2.1, bt242.2.2.1⟩ : S65)])) else (none)))) else (some (x5, x8, x7))
def moraineref04_Walked.f (k : Nat) (l0 : List Int) : Option (Int × (List (S65)) × Int) := if (l0.length : Int) < 12 then (some (0, ([] : List (S65)), 0)) else ((moraineref04_number.f k l0 0 8).bind fun t240 => ((moraineref04_number.f k l0 8 4).bind fun t241 => (moraineref04_Walked.l0 k l0 t240 (wrap64 (t241)) 12 ([] : List (S65)))))
theorem moraineref04_Walked.mono_l : ∀ k, (∀ y0 y1 y2 y3 y4, LeO (moraineref04_Walked.l0 k y0 y1 y2 y3 y4) (moraineref04_Walked.l0 (k + 1) y0 y1 y2 y3 y4))
  | 0 => fun _ _ _ _ _ r h => by simp [moraineref04_Walked.l0] at h
  | k + 1 => by
    have ih0 := moraineref04_Walked.mono_l k
    · intro y0 y1 y2 y3 y4
      unfold moraineref04_Walked.l0
      repeat' first
      | (with_reducible exact ih0 _ _ _ _ _)
      | (with_reducible exact moraineref04_number.mono _ _ _ _)
      | (with_reducible exact moraineref04_op.mono _ _ _)
      | (with_reducible exact LeO.refl _)
      | (with_reducible exact LeO.none _)
      | (with_reducible refine LeO.ite ?_ ?_)
      | (with_reducible refine LeO.bind ?_ (fun _ => ?_))
      | exact ih0 _ _ _ _ _
      | exact moraineref04_number.mono _ _ _ _
      | exact moraineref04_op.mono _ _ _
      | exact LeO.none _
      | refine LeO.ite ?_ ?_
      | refine LeO.bind ?_ (fun _ => ?_)
theorem moraineref04_Walked.mono : ∀ a0 k, LeO (moraineref04_Walked.f k a0) (moraineref04_Walked.f (k + 1) a0) := by
  intro a0 k
  have ih0 := moraineref04_Walked.mono_l k
  unfold moraineref04_Walked.f
  repeat' first
      | (with_reducible exact ih0 _ _ _ _ _)
      | (with_reducible exact moraineref04_number.mono _ _ _ _)
      | (with_reducible exact moraineref04_op.mono _ _ _)
      | (with_reducible exact LeO.refl _)
      | (with_reducible exact LeO.none _)
      | (with_reducible refine LeO.ite ?_ ?_)
      | (with_reducible refine LeO.bind ?_ (fun _ => ?_))
      | exact ih0 _ _ _ _ _
      | exact moraineref04_number.mono _ _ _ _
      | exact moraineref04_op.mono _ _ _
      | exact LeO.none _
      | refine LeO.ite ?_ ?_
      | refine LeO.bind ?_ (fun _ => ?_)
set_option maxHeartbeats 8000000 in
set_option maxRecDepth 100000 in
theorem moraineref04_Walked.calls (k : Nat) (A0 : Option Addr) (c0 : Nat) (l0 : List Int) (r1 : Int) (r2 : List (S65)) (r3 : Int) (w : World) (hr0 : Kd.C (Kd.int .u8) w A0 l0.length l0) (hc0 : l0.length ≤ c0) (h : moraineref04_Walked.f k l0 = some (r1, r2, r3)) :
    Calls Try.prog 40 #[.slice A0 l0.length c0] w fun e w' => ∃ v1_ : Value, e = .returned (.tuple #[.int .u64 r1, v1_, .int .i64 r3]) ∧ Kd.R k65 65 w' w.heap.size (fun _ => True) v1_ r2 ∧ Below w.heap.size w w' := by
  have hu65 := Try.underlying65
  have HR0 := Aside0.mk hr0
  have HC0 := Aside0.mk hc0
  clear hr0 hc0
  have HB := Aside0.mk (Below.refl w.heap.size w)
  have H : (if (l0.length : Int) < 12 then (some (0, ([] : List (S65)), 0)) else ((moraineref04_number.f k l0 0 8).bind fun t240 => ((moraineref04_number.f k l0 8 4).bind fun t241 => (moraineref04_Walked.l0 k l0 t240 (wrap64 (t241)) 12 ([] : List (S65)))))) = some (r1, r2, r3) := h
  clear h
  by_cases c2 : (l0.length : Int) < 12
  · rw [if_pos c2] at H
    have c2b0 : decide ((l0.length : Int) < 12) = true := decide_eq_true c2
    have c2b1 : decide (l0.length < 12) = true := decide_eq_true (by omega)
    clear c2
    simp only [Option.some.injEq, Prod.mk.injEq] at H
    obtain ⟨rfl, rfl, rfl⟩ := H
    go_enter Try.func40, Try.ntmps40
    go_wp2
    go_ret3
    exact ⟨_, by first | rfl | (simp [errW_none, errW_some] <;> rfl) | (simp [*, errW_none, errW_some] <;> rfl), by first | exact Kd.R_nil _ _ _ _ _ | exact Kd.N_nil _ _ _ _ _ | exact Kd.V_nil _ _ _ _ _ | exact Kd.Q_nil _ _ _ _ _ | exact Kd.S_nil _ _ _ _ _, by repeat (first | (with_reducible first | exact HB.out | apply below_alloc | apply pw_below_drewN | apply below_drew1) | exact HB.out)⟩
  · rw [if_neg c2] at H
    have c2b0 : decide ((l0.length : Int) < 12) = false := decide_eq_false c2
    have c2b1 : decide (l0.length < 12) = false := decide_eq_false (by omega)
    clear c2
    replace H := Option.bind_eq_some_iff.mp H
    obtain ⟨t240, A30, H⟩ := H
    replace H : ((moraineref04_number.f k l0 8 4).bind fun t241 => (moraineref04_Walked.l0 k l0 t240 (wrap64 (t241)) 12 ([] : List (S65)))) = some (r1, r2, r3) := H
    have A3 := Aside0.mk A30
    clear A30
    replace H := Option.bind_eq_some_iff.mp H
    obtain ⟨t241, A40, H⟩ := H
    replace H : (moraineref04_Walked.l0 k l0 t240 (wrap64 (t241)) 12 ([] : List (S65))) = some (r1, r2, r3) := H
    have A4 := Aside0.mk A40
    clear A40
    have H' := Aside0.mk H
    clear H
    go_enter Try.func40, Try.ntmps40
    go_wp2_with (first | ((with_reducible refine gate_callee (f := 64) rfl ?_); refine goesL_ (some 15) rfl rfl Try.func64 (by kernel_rfl) rfl #[.slice A0 l0.length c0, .int .i64 0, .int .i64 8] rfl (by (try simp only [List.map_toArray, List.map_cons, List.map_nil]); first | done | rfl | (simp only [List.length_drop, List.length_take]; rfl)) ?_; (with_reducible refine (moraineref04_number.calls k _ _ l0 0 8 t240 _ ?side1 ?side2 A3.out).mono ?_); (case side1 => repeat (first | exact HR0.out | (with_reducible refine Kd.C_alloc ?_ _) | (with_reducible refine Kd.C_drewN ?_ _) | (with_reducible refine Kd.C_drew ?_))); (case side2 => exact HC0.out); rintro e w' ⟨rfl, ⟨nd, rfl⟩⟩; refine ⟨_, rfl, ?_⟩) | ((with_reducible refine gate_callee (f := 64) rfl ?_); refine goesL_ (some 17) rfl rfl Try.func64 (by kernel_rfl) rfl #[.slice A0 l0.length c0, .int .i64 8, .int .i64 4] rfl (by (try simp only [List.map_toArray, List.map_cons, List.map_nil]); first | done | rfl | (simp only [List.length_drop, List.length_take]; rfl)) ?_; (with_reducible refine (moraineref04_number.calls k _ _ l0 8 4 t241 _ ?side1 ?side2 A4.out).mono ?_); (case side1 => repeat (first | exact HR0.out | (with_reducible refine Kd.C_alloc ?_ _) | (with_reducible refine Kd.C_drewN ?_ _) | (with_reducible refine Kd.C_drew ?_))); (case side2 => exact HC0.out); rintro e w' ⟨rfl, ⟨nd, rfl⟩⟩; refine ⟨_, rfl, ?_⟩))
    go_loopg [7, 8] k (fun kq v7 v8 w' => ∃ (x7_1 : Int) (x8_1 : List (S65)), v7 = .int .i64 x7_1 ∧ Aside0 (moraineref04_Walked.l0 kq l0 t240 (wrap64 (t241)) x7_1 x8_1 = some (r1, r2, r3)) ∧ Aside0 (kq ≤ k) ∧ Aside0 (Kd.R k65 65 w' w.heap.size (fun _ => True) v8 x8_1) ∧ Aside0 (Below w.heap.size w w'))
    case atStart => exact ⟨(12), (([] : List (S65))), (by first | rfl | (simp; done) | (simp [*]; done)), H', ⟨Nat.le_refl _⟩, ⟨by first | exact Kd.R_nil _ _ _ _ _ | exact Kd.N_nil _ _ _ _ _ | exact Kd.V_nil _ _ _ _ _ | exact Kd.Q_nil _ _ _ _ _ | exact Kd.S_nil _ _ _ _ _⟩, ⟨by repeat (first | (with_reducible first | exact HB.out | apply below_alloc | apply pw_below_drewN | apply below_drew1) | exact HB.out)⟩⟩
    case round =>
      clear H'
      try clear c2
      try clear c2b0
      try clear c2b1
      try clear p2
      try clear c4
      obtain ⟨x7_1, x8_1, rfl, HA, HK1, HO_8, HB⟩ := hrel
      cases gk with
      | zero => exact absurd HA.out (by simp [moraineref04_Walked.l0])
      | succ k1 =>
        have H := HA.out
        clear HA
        simp only [moraineref04_Walked.l0] at H
        by_cases c5 : (x8_1.length : Int) < (wrap64 (t241))
        · rw [if_pos c5] at H
          have c5b0 : decide ((x8_1.length : Int) < (wrap64 (t241))) = true := decide_eq_true c5
          clear c5
          replace H := Option.bind_eq_some_iff.mp H
          obtain ⟨⟨t242, t243, t244, t245⟩, A60, H⟩ := H
          replace H : (if t245 < 0 then (some (t240, x8_1, x7_1)) else (if x8_1.length < 3518437208883 then (moraineref04_Walked.l0 k1 l0 t240 (wrap64 (t241)) t245 (x8_1 ++ [(⟨t242, t243, t244⟩ : S65)])) else (none))) = some (r1, r2, r3) := H
          have A6 := Aside0.mk A60
          clear A60
          by_cases c7 : t245 < 0
          · rw [if_pos c7] at H
            have c7b0 : decide (t245 < 0) = true := decide_eq_true c7
            clear c7
            simp only [Option.some.injEq, Prod.mk.injEq] at H
            obtain ⟨rfl, rfl, rfl⟩ := H
            obtain ⟨Ao8, co8, eo8⟩ := Kd.R_slice HO_8.out
            subst eo8
            go_wp2_with (first | ((with_reducible refine gate_callee (f := 67) rfl ?_); refine goesL_ (some 26) rfl rfl Try.func67 (by kernel_rfl) rfl #[.slice A0 l0.length c0, .int .i64 x7_1] rfl (by (try simp only [List.map_toArray, List.map_cons, List.map_nil]); first | done | rfl | (simp only [List.length_drop, List.length_take]; rfl)) ?_; (with_reducible refine (moraineref04_op.calls k1 _ _ l0 x7_1 t242 t243 t244 t245 _ ?side1 ?side2 A6.out).mono ?_); (case side1 => repeat (first | exact (Kd.C_below HR0.out HB.out) | (with_reducible refine Kd.C_alloc ?_ _) | (with_reducible refine Kd.C_drewN ?_ _) | (with_reducible refine Kd.C_drew ?_))); (case side2 => exact HC0.out); rintro e w9 ⟨rfl, hb⟩; refine ⟨_, rfl, ?_⟩; have n0_ := Aside0.mk (Kd.R_below (by (with_reducible repeat (first | apply Kd.R_alloc | apply Kd.R_drewN | apply Kd.R_drew)); exact HO_8.out) hb); have n1_ := Aside0.mk (below_step (by repeat (first | (with_reducible first | exact HB.out | apply below_alloc | apply pw_below_drewN | apply below_drew1) | exact HB.out)) hb); clear HO_8; clear HB; have HO_8 := n0_; have HB := n1_; clear n0_ n1_; (try clear hb); (try clear hb2); (try clear hk); (try clear hi)) | ((with_reducible refine gate_dst (N := 9) rfl ?_); refine box_event ?hg (N := 9) ?hd (cs := #[.int .i64 0, .string (⟨#[]⟩ : ByteArray), .string (⟨#[]⟩ : ByteArray)]) (t := 65) ?hr ?_; (case hd => rfl); (case hg => rfl); (case hr => first | (go_simp; done) | (go_simp; rfl)); intro gb246 hg w10 hbox hb; have n0_ := Aside0.mk (Kd.R_below (Kd.R_elderB (by (with_reducible repeat (first | apply Kd.R_alloc | apply Kd.R_drewN | apply Kd.R_drew)); exact HO_8.out) gb246 (Nat.le_of_eq hg.symm)) hb); have n1_ := Aside0.mk (below_step (by repeat (first | (with_reducible first | exact HB.out | apply below_alloc | apply pw_below_drewN | apply below_drew1) | exact HB.out)) hb); have n2_ := Aside0.mk (hbox); have n3_ := Aside0.mk ((by rw [hg]; exact (below_size (by repeat (first | (with_reducible first | exact HB.out | apply below_alloc | apply pw_below_drewN | apply below_drew1) | exact HB.out))) : w.heap.size ≤ gb246)); have n4_ := Aside0.mk ((by rw [hg]; exact (below_size (by repeat (first | (with_reducible first | exact HB.out | apply below_alloc | apply pw_below_drewN | apply below_drew1) | exact HB.out))) : w.heap.size ≤ gb246)); clear HO_8; clear HB; have HO_8 := n0_; have HB := n1_; have BK246 := n2_; have GW246 := n3_; have GE246 := n4_; clear n0_ n1_ n2_ n3_ n4_; clear hb hbox hg; have hcz11_0 : w10.cell? ⟨gb246, 0, none⟩ = some (.int .i64 0) := (blk_cell BK246.out 0).trans rfl; have hcz11_1 : w10.cell? ⟨gb246, 1, none⟩ = some (.string (⟨#[]⟩ : ByteArray)) := (blk_cell BK246.out 1).trans rfl; have hcz11_2 : w10.cell? ⟨gb246, 2, none⟩ = some (.string (⟨#[]⟩ : ByteArray)) := (blk_cell BK246.out 2).trans rfl; have hfz11_0 := blk_frozen BK246.out 0; have hfz11_1 := blk_frozen BK246.out 1; have hfz11_2 := blk_frozen BK246.out 2))
            go_ret3
            exact ⟨_, by first | rfl | (simp [errW_none, errW_some] <;> rfl) | (simp [*, errW_none, errW_some] <;> rfl), by (with_reducible repeat (first | apply Kd.R_alloc | apply Kd.R_drewN | apply Kd.R_drew)); exact Kd.R_mono (Kd.R_far (p := ⟨gb246, 2, none⟩) (Kd.R_far (p := ⟨gb246, 1, none⟩) (Kd.R_far (p := ⟨gb246, 0, none⟩) (Kd.R_mono HO_8.out (fun k_ hk => (⟨hk, hk.2⟩ : _ ∧ k_ ≠ gb246))) (fun _ hk => hk.2) (.int .i64 t242)) (fun _ hk => hk.2) (.string t243)) (fun _ hk => hk.2) (.string t244)) (fun _ hk => trivial), by repeat (first | (with_reducible first | exact HB.out | apply below_alloc | apply pw_below_drewN | apply below_drew1 | refine below_set ?_ GE246.out) | exact HB.out)⟩
          · rw [if_neg c7] at H
            have c7b0 : decide (t245 < 0) = false := decide_eq_false c7
            clear c7
            by_cases c12 : x8_1.length < 3518437208883
            · rw [if_pos c12] at H
              have LMc12 := Aside0.mk c12
              clear c12
              obtain ⟨y247, hy247⟩ : ∃ y_ : List (S65), y_ = (x8_1 ++ [(⟨t242, t243, t244⟩ : S65)]) := ⟨_, rfl⟩
              replace H : (moraineref04_Walked.l0 k1 l0 t240 (wrap64 (t241)) t245 y247) = some (r1, r2, r3) := by first | (rw [hy247]; with_reducible exact H) | (have H2_ := (Option.bind_some _ _).symm.trans H; rw [hy247]; with_reducible exact H2_) | (have H2_ := (Option.bind_some _ _).symm.trans H; with_reducible exact H2_) | with_reducible exact H | (rw [hy247]; exact H) | exact H
              have Ny247 := Aside0.mk hy247
              clear hy247
              have H' := Aside0.mk H
              clear H
              obtain ⟨Ao13, co13, eo13⟩ := Kd.R_slice HO_8.out
              subst eo13
              go_wp2_with (first | ((with_reducible refine gate_callee (f := 67) rfl ?_); refine goesL_ (some 26) rfl rfl Try.func67 (by kernel_rfl) rfl #[.slice A0 l0.length c0, .int .i64 x7_1] rfl (by (try simp only [List.map_toArray, List.map_cons, List.map_nil]); first | done | rfl | (simp only [List.length_drop, List.length_take]; rfl)) ?_; (with_reducible refine (moraineref04_op.calls k1 _ _ l0 x7_1 t242 t243 t244 t245 _ ?side1 ?side2 A6.out).mono ?_); (case side1 => repeat (first | exact (Kd.C_below HR0.out HB.out) | (with_reducible refine Kd.C_alloc ?_ _) | (with_reducible refine Kd.C_drewN ?_ _) | (with_reducible refine Kd.C_drew ?_))); (case side2 => exact HC0.out); rintro e w14 ⟨rfl, hb⟩; refine ⟨_, rfl, ?_⟩; have n0_ := Aside0.mk (Kd.R_below (by (with_reducible repeat (first | apply Kd.R_alloc | apply Kd.R_drewN | apply Kd.R_drew)); exact HO_8.out) hb); have n1_ := Aside0.mk (below_step (by repeat (first | (with_reducible first | exact HB.out | apply below_alloc | apply pw_below_drewN | apply below_drew1) | exact HB.out)) hb); clear HO_8; clear HB; have HO_8 := n0_; have HB := n1_; clear n0_ n1_; (try clear hb); (try clear hb2); (try clear hk); (try clear hi)) | ((with_reducible refine gate_dst (N := 9) rfl ?_); refine box_event ?hg (N := 9) ?hd (cs := #[.int .i64 0, .string (⟨#[]⟩ : ByteArray), .string (⟨#[]⟩ : ByteArray)]) (t := 65) ?hr ?_; (case hd => rfl); (case hg => rfl); (case hr => first | (go_simp; done) | (go_simp; rfl)); intro gb246 hg w15 hbox hb; have n0_ := Aside0.mk (Kd.R_below (Kd.R_elderB (by (with_reducible repeat (first | apply Kd.R_alloc | apply Kd.R_drewN | apply Kd.R_drew)); exact HO_8.out) gb246 (Nat.le_of_eq hg.symm)) hb); have n1_ := Aside0.mk (below_step (by repeat (first | (with_reducible first | exact HB.out | apply below_alloc | apply pw_below_drewN | apply below_drew1) | exact HB.out)) hb); have n2_ := Aside0.mk (hbox); have n3_ := Aside0.mk ((by rw [hg]; exact (below_size (by repeat (first | (with_reducible first | exact HB.out | apply below_alloc | apply pw_below_drewN | apply below_drew1) | exact HB.out))) : w.heap.size ≤ gb246)); have n4_ := Aside0.mk ((by rw [hg]; exact (below_size (by repeat (first | (with_reducible first | exact HB.out | apply below_alloc | apply pw_below_drewN | apply below_drew1) | exact HB.out))) : w.heap.size ≤ gb246)); clear HO_8; clear HB; have HO_8 := n0_; have HB := n1_; have BK246 := n2_; have GW246 := n3_; have GE246 := n4_; clear n0_ n1_ n2_ n3_ n4_; clear hb hbox hg; have hcz16_0 : w15.cell? ⟨gb246, 0, none⟩ = some (.int .i64 0) := (blk_cell BK246.out 0).trans rfl; have hcz16_1 : w15.cell? ⟨gb246, 1, none⟩ = some (.string (⟨#[]⟩ : ByteArray)) := (blk_cell BK246.out 1).trans rfl; have hcz16_2 : w15.cell? ⟨gb246, 2, none⟩ = some (.string (⟨#[]⟩ : ByteArray)) := (blk_cell BK246.out 2).trans rfl; have hfz16_0 := blk_frozen BK246.out 0; have hfz16_1 := blk_frozen BK246.out 1; have hfz16_2 := blk_frozen BK246.out 2) | ((with_reducible refine gate_builtin (b := .append) (xs := #[.tmp 34, .tmp 36]) rfl ?_); at_builtin; refine Kd.R_append k65 (w0 := w) w.heap.size rfl (.tmp 34) (.tmp 36) 22 65 (.agg #[(.int .i64 0), (.string ⟨#[]⟩), (.string ⟨#[]⟩)]) 40 rfl Try.underlying22 info65 rfl (by decide) (by omega) (.slice Ao13 x8_1.length co13) x8_1 (⟨t242, t243, t244⟩ : S65) [.int .i64 t242, .string t243, .string t244] (fun k_ => k_ ≠ gb246) (fun _ => False) rfl (by first | (go_simp; done) | (go_simp; rfl)) ?aP (fun _ hk => hk.elim) ?aF ?aO ?aB ?aS ?aL ?_; (case aP => exact k65_mkM _ _ _ (⟨t242, t243, t244⟩ : S65)); (case aB => exact (by repeat (first | (with_reducible first | exact HB.out | apply below_alloc | apply pw_below_drewN | apply below_drew1 | refine below_set ?_ GE246.out) | exact HB.out))); (case aF => exact (fun k_ hk => Kd.freshB (g := gb246) (o := .cells #[.int .i64 t242, .string t243, .string t244] 65 (0, 0)) (by (with_reducible repeat (first | refine blk_drewN ?_ _ | refine blk_drew ?_ | refine blk_alloc ?_ _)); refine blk_put (cs := #[.int .i64 t242, .string t243, .string (⟨#[]⟩ : ByteArray)]) ?_ 2 _ rfl; (with_reducible repeat (first | refine blk_drewN ?_ _ | refine blk_drew ?_ | refine blk_alloc ?_ _)); refine blk_put (cs := #[.int .i64 t242, .string (⟨#[]⟩ : ByteArray), .string (⟨#[]⟩ : ByteArray)]) ?_ 1 _ rfl; (with_reducible repeat (first | refine blk_drewN ?_ _ | refine blk_drew ?_ | refine blk_alloc ?_ _)); refine blk_put (cs := #[.int .i64 0, .string (⟨#[]⟩ : ByteArray), .string (⟨#[]⟩ : ByteArray)]) ?_ 0 _ rfl; (with_reducible repeat (first | refine blk_drewN ?_ _ | refine blk_drew ?_ | refine blk_alloc ?_ _)); exact BK246.out) k_ hk)); (case aO => exact (by (with_reducible repeat (first | apply Kd.R_alloc | apply Kd.R_drewN | apply Kd.R_drew)); exact Kd.R_mono (Kd.R_far (p := ⟨gb246, 2, none⟩) (Kd.R_far (p := ⟨gb246, 1, none⟩) (Kd.R_far (p := ⟨gb246, 0, none⟩) (Kd.R_mono HO_8.out (fun k_ hk => (⟨hk, hk.2⟩ : _ ∧ k_ ≠ gb246))) (fun _ hk => hk.2) (.int .i64 t242)) (fun _ hk => hk.2) (.string t243)) (fun _ hk => hk.2) (.string t244)) (fun _ hk => hk.1.2))); (case aS => exact (below_size (by repeat (first | (with_reducible first | exact HB.out | apply below_alloc | apply pw_below_drewN | apply below_drew1 | refine below_set ?_ GE246.out) | exact HB.out)))); (case aL => have := LMc12.out; omega); intro v248 w17 ho hb hg hat; rw [← Ny247.out] at ho; have n0_ := Aside0.mk (blk_grown (g := gb246) (o := .cells #[.int .i64 t242, .string t243, .string t244] 65 (0, 0)) (by (with_reducible repeat (first | refine blk_drewN ?_ _ | refine blk_drew ?_ | refine blk_alloc ?_ _)); refine blk_put (cs := #[.int .i64 t242, .string t243, .string (⟨#[]⟩ : ByteArray)]) ?_ 2 _ rfl; (with_reducible repeat (first | refine blk_drewN ?_ _ | refine blk_drew ?_ | refine blk_alloc ?_ _)); refine blk_put (cs := #[.int .i64 t242, .string (⟨#[]⟩ : ByteArray), .string (⟨#[]⟩ : ByteArray)]) ?_ 1 _ rfl; (with_reducible repeat (first | refine blk_drewN ?_ _ | refine blk_drew ?_ | refine blk_alloc ?_ _)); refine blk_put (cs := #[.int .i64 0, .string (⟨#[]⟩ : ByteArray), .string (⟨#[]⟩ : ByteArray)]) ?_ 0 _ rfl; (with_reducible repeat (first | refine blk_drewN ?_ _ | refine blk_drew ?_ | refine blk_alloc ?_ _)); exact BK246.out) hg (Kd.R_away HO_8.out (fun _ hk => hk.2))); have n1_ := Aside0.mk (hb); have n2_ := Aside0.mk (ho); clear BK246; clear HB; clear HO_8; have BK246 := n0_; have HB := n1_; have HO249 := n2_; clear n0_ n1_ n2_; clear ho hb hg hat))
              go_roundg k1
              case measure => have := HK1.out; omega
              case rel => exact ⟨(t245), (y247), (by first | rfl | (simp; done) | (simp [*]; done)), H', ⟨by have := HK1.out; omega⟩, ⟨by (with_reducible repeat (first | apply Kd.R_alloc | apply Kd.R_drewN | apply Kd.R_drew)); exact Kd.R_mono HO249.out (fun _ hk => trivial)⟩, ⟨by repeat (first | (with_reducible first | exact HB.out | apply below_alloc | apply pw_below_drewN | apply below_drew1 | refine below_set ?_ GE246.out) | exact HB.out)⟩⟩
            · rw [if_neg c12] at H
              exact absurd H (by simp)
        · rw [if_neg c5] at H
          have c5b0 : decide ((x8_1.length : Int) < (wrap64 (t241))) = false := decide_eq_false c5
          clear c5
          simp only [Option.some.injEq, Prod.mk.injEq] at H
          obtain ⟨rfl, rfl, rfl⟩ := H
          obtain ⟨Ao18, co18, eo18⟩ := Kd.R_slice HO_8.out
          subst eo18
          go_wp2
          go_ret3
          exact ⟨_, by first | rfl | (simp [errW_none, errW_some] <;> rfl) | (simp [*, errW_none, errW_some] <;> rfl), by (with_reducible repeat (first | apply Kd.R_alloc | apply Kd.R_drewN | apply Kd.R_drew)); exact HO_8.out, by repeat (first | (with_reducible first | exact HB.out | apply below_alloc | apply pw_below_drewN | apply below_drew1) | exact HB.out)⟩

end Go.Proofs.Ythkooncibfkepaa.G

/- Printed by the session's program over the kit's print, out of the translation: functions as plain Lean functions, and the proofs that the calls come to them. -/
namespace Go.Proofs.Ythkooncibfkepaa.G
open Go.RowKit Go.Proofs.YthkooncibfkepaaW.PrintWords Go.Proofs.YthkooncibfkepaaW.PrintLast Go.Proofs.YthkooncibfkepaaW.PrintMore
attribute [local go_sem] max2_int min2_int max_two min_two max_three min_three max_four min_four   -- for this text's walks alone
set_option linter.unusedVariables false
set_option linter.unusedSimpArgs false

/-! ### moraineref04_Decode: function 34 -/
def moraineref04_Decode.f (k : Nat) (l0 : List Int) : Option (Int × (List (S65)) × Int) := if (l0.length : Int) > 1048576 then (some (0, ([] : List (S65)), 41)) else ((moraineref04_Walked.f k l0).bind fun bt250 => (if bt250.2.2 < 12 then (some (0, ([] : List (S65)), 41)) else (if bt250.2.2 = (l0.length : Int) then ((moraineref04_number.f k l0 8 4).bind fun t255 => (if (wrap64 (t255)) = (bt250.2.1.length : Int) then (if (bt250.2.1.length : Int) > 4096 then (some (0, ([] : List (S65)), 41)) else ((moraineref04_Fit.f bt250.1 (bt250.2.1.length : Int)).bind fun t256 => (if t256 = true then (some (bt250.1, bt250.2.1, 0)) else (some (0, ([] : List (S65)), 41))))) else (some (0, ([] : List (S65)), 41)))) else (some (0, ([] : List (S65)), 41)))))
theorem moraineref04_Decode.mono : ∀ a0 k, LeO (moraineref04_Decode.f k a0) (moraineref04_Decode.f (k + 1) a0) := by
  intro a0 k
  unfold moraineref04_Decode.f
  repeat' first
      | (with_reducible exact moraineref04_Walked.mono _ _)
      | (with_reducible exact moraineref04_number.mono _ _ _ _)
      | (with_reducible exact LeO.refl _)
      | (with_reducible exact LeO.none _)
      | (with_reducible refine LeO.ite ?_ ?_)
      | (with_reducible refine LeO.bind ?_ (fun _ => ?_))
      | exact moraineref04_Walked.mono _ _
      | exact moraineref04_number.mono _ _ _ _
      | exact LeO.none _
      | refine LeO.ite ?_ ?_
      | refine LeO.bind ?_ (fun _ => ?_)
set_option maxHeartbeats 8000000 in
set_option maxRecDepth 100000 in
theorem moraineref04_Decode.calls (k : Nat) (A0 : Option Addr) (c0 : Nat) (l0 : List Int) (r1 : Int) (r2 : List (S65)) (r3 : Int) (w : World) (hr0 : Kd.C (Kd.int .u8) w A0 l0.length l0) (hc0 : l0.length ≤ c0) (h : moraineref04_Decode.f k l0 = some (r1, r2, r3)) :
    Calls Try.prog 34 #[.slice A0 l0.length c0] w fun e w' => ∃ v1_ : Value, e = .returned (.tuple #[.int .u64 r1, v1_, .int .i64 r3]) ∧ Kd.R k65 65 w' w.heap.size (fun _ => True) v1_ r2 ∧ Below w.heap.size w w' := by
  have HR0 := Aside0.mk hr0
  have HC0 := Aside0.mk hc0
  clear hr0 hc0
  have HB := Aside0.mk (Below.refl w.heap.size w)
  have H : (if (l0.length : Int) > 1048576 then (some (0, ([] : List (S65)), 41)) else ((moraineref04_Walked.f k l0).bind fun bt250 => (if bt250.2.2 < 12 then (some (0, ([] : List (S65)), 41)) else (if bt250.2.2 = (l0.length : Int) then ((moraineref04_number.f k l0 8 4).bind fun t255 => (if (wrap64 (t255)) = (bt250.2.1.length : Int) then (if (bt250.2.1.length : Int) > 4096 then (some (0, ([] : List (S65)), 41)) else ((moraineref04_Fit.f bt250.1 (bt250.2.1.length : Int)).bind fun t256 => (if t256 = true then (some (bt250.1, bt250.2.1, 0)) else (some (0, ([] : List (S65)), 41))))) else (some (0, ([] : List (S65)), 41)))) else (some (0, ([] : List (S65)), 41)))))) = some (r1, r2, r3) := h
  clear h
  by_cases c2 : (l0.length : Int) > 1048576
  · rw [if_pos c2] at H
    have c2b0 : decide (1048576 < (l0.length : Int)) = true := decide_eq_true c2
    have c2b1 : decide (1048576 < l0.length) = true := decide_eq_true (by omega)
    clear c2
    simp only [Option.some.injEq, Prod.mk.injEq] at H
    obtain ⟨rfl, rfl, rfl⟩ := H
    go_enter Try.func34, Try.ntmps34
    go_wp2
    go_ret3
    exact ⟨_, by first | rfl | (simp [errW_none, errW_some] <;> rfl) | (simp [*, errW_none, errW_some] <;> rfl), by first | exact Kd.R_nil _ _ _ _ _ | exact Kd.N_nil _ _ _ _ _ | exact Kd.V_nil _ _ _ _ _ | exact Kd.Q_nil _ _ _ _ _ | exact Kd.S_nil _ _ _ _ _, by repeat (first | (with_reducible first | exact HB.out | apply below_alloc | apply pw_below_drewN | apply below_drew1) | exact HB.out)⟩
  · rw [if_neg c2] at H
    have c2b0 : decide (1048576 < (l0.length : Int)) = false := decide_eq_false c2
    have c2b1 : decide (1048576 < l0.length) = false := decide_eq_false (by omega)
    clear c2
    replace H := Option.bind_eq_some_iff.mp H
    obtain ⟨⟨t250, t251, t252⟩, A30, H⟩ := H
    replace H : (if t252 < 12 then (some (0, ([] : List (S65)), 41)) else (if t252 = (l0.length : Int) then ((moraineref04_number.f k l0 8 4).bind fun t255 => (if (wrap64 (t255)) = (t251.length : Int) then (if (t251.length : Int) > 4096 then (some (0, ([] : List (S65)), 41)) else ((moraineref04_Fit.f t250 (t251.length : Int)).bind fun t256 => (if t256 = true then (some (t250, t251, 0)) else (some (0, ([] : List (S65)), 41))))) else (some (0, ([] : List (S65)), 41)))) else (some (0, ([] : List (S65)), 41)))) = some (r1, r2, r3) := H
    have A3 := Aside0.mk A30
    clear A30
    by_cases c4 : t252 < 12
    · rw [if_pos c4] at H
      have c4b0 : decide (t252 < 12) = true := decide_eq_true c4
      clear c4
      simp only [Option.some.injEq, Prod.mk.injEq] at H
      obtain ⟨rfl, rfl, rfl⟩ := H
      go_enter Try.func34, Try.ntmps34
      go_wp2_with (first | ((with_reducible refine gate_callee (f := 40) rfl ?_); refine goesL_ (some 13) rfl rfl Try.func40 (by kernel_rfl) rfl #[.slice A0 l0.length c0] rfl (by (try simp only [List.map_toArray, List.map_cons, List.map_nil]); first | done | rfl | (simp only [List.length_drop, List.length_take]; rfl)) ?_; (with_reducible refine (moraineref04_Walked.calls k _ _ l0 t250 t251 t252 _ ?side1 ?side2 A3.out).mono ?_); (case side1 => repeat (first | exact HR0.out | (with_reducible refine Kd.C_alloc ?_ _) | (with_reducible refine Kd.C_drewN ?_ _) | (with_reducible refine Kd.C_drew ?_))); (case side2 => exact HC0.out); rintro e w5 ⟨v253, rfl, ho0, hb⟩; refine ⟨_, rfl, ?_⟩; have n0_ := Aside0.mk (Kd.R_lower ho0 (below_size (by repeat (first | (with_reducible first | exact HB.out | apply below_alloc | apply pw_below_drewN | apply below_drew1) | exact HB.out)))); have n1_ := Aside0.mk (below_step (by repeat (first | (with_reducible first | exact HB.out | apply below_alloc | apply pw_below_drewN | apply below_drew1) | exact HB.out)) hb); clear HB; have HO254 := n0_; have HB := n1_; clear n0_ n1_; (try clear hb); (try clear hb2); (try clear hk); (try clear hi); (try clear ho0)))
      go_ret3
      exact ⟨_, by first | rfl | (simp [errW_none, errW_some] <;> rfl) | (simp [*, errW_none, errW_some] <;> rfl), by first | exact Kd.R_nil _ _ _ _ _ | exact Kd.N_nil _ _ _ _ _ | exact Kd.V_nil _ _ _ _ _ | exact Kd.Q_nil _ _ _ _ _ | exact Kd.S_nil _ _ _ _ _, by repeat (first | (with_reducible first | exact HB.out | apply below_alloc | apply pw_below_drewN | apply below_drew1) | exact HB.out)⟩
    · rw [if_neg c4] at H
      have c4b0 : decide (t252 < 12) = false := decide_eq_false c4
      clear c4
      by_cases c6 : t252 = (l0.length : Int)
      · rw [if_pos c6] at H
        have c6b0 : (t252 == (l0.length : Int)) = true := beq_iff_eq.mpr c6
        have c6b1 : (t252 != (l0.length : Int)) = false := bne_eq_false_iff_eq.mpr c6
        clear c6
        replace H := Option.bind_eq_some_iff.mp H
        obtain ⟨t255, A70, H⟩ := H
        replace H : (if (wrap64 (t255)) = (t251.length : Int) then (if (t251.length : Int) > 4096 then (some (0, ([] : List (S65)), 41)) else ((moraineref04_Fit.f t250 (t251.length : Int)).bind fun t256 => (if t256 = true then (some (t250, t251, 0)) else (some (0, ([] : List (S65)), 41))))) else (some (0, ([] : List (S65)), 41))) = some (r1, r2, r3) := H
        have A7 := Aside0.mk A70
        clear A70
        by_cases c8 : (wrap64 (t255)) = (t251.length : Int)
        · rw [if_pos c8] at H
          have c8b0 : ((wrap64 (t255)) == (t251.length : Int)) = true := beq_iff_eq.mpr c8
          have c8b1 : ((wrap64 (t255)) != (t251.length : Int)) = false := bne_eq_false_iff_eq.mpr c8
          clear c8
          by_cases c9 : (t251.length : Int) > 4096
          · rw [if_pos c9] at H
            have c9b0 : decide (4096 < (t251.length : Int)) = true := decide_eq_true c9
            have c9b1 : decide (4096 < t251.length) = true := decide_eq_true (by omega)
            clear c9
            simp only [Option.some.injEq, Prod.mk.injEq] at H
            obtain ⟨rfl, rfl, rfl⟩ := H
            go_enter Try.func34, Try.ntmps34
            go_wp2_with (first | ((with_reducible refine gate_callee (f := 40) rfl ?_); refine goesL_ (some 13) rfl rfl Try.func40 (by kernel_rfl) rfl #[.slice A0 l0.length c0] rfl (by (try simp only [List.map_toArray, List.map_cons, List.map_nil]); first | done | rfl | (simp only [List.length_drop, List.length_take]; rfl)) ?_; (with_reducible refine (moraineref04_Walked.calls k _ _ l0 t250 t251 t252 _ ?side1 ?side2 A3.out).mono ?_); (case side1 => repeat (first | exact HR0.out | (with_reducible refine Kd.C_alloc ?_ _) | (with_reducible refine Kd.C_drewN ?_ _) | (with_reducible refine Kd.C_drew ?_))); (case side2 => exact HC0.out); rintro e w10 ⟨v253, rfl, ho0, hb⟩; refine ⟨_, rfl, ?_⟩; have n0_ := Aside0.mk (Kd.R_lower ho0 (below_size (by repeat (first | (with_reducible first | exact HB.out | apply below_alloc | apply pw_below_drewN | apply below_drew1) | exact HB.out)))); have n1_ := Aside0.mk (below_step (by repeat (first | (with_reducible first | exact HB.out | apply below_alloc | apply pw_below_drewN | apply below_drew1) | exact HB.out)) hb); clear HB; have HO254 := n0_; have HB := n1_; clear n0_ n1_; (try clear hb); (try clear hb2); (try clear hk); (try clear hi); (try clear ho0)) | (go_at_call 64; (with_reducible refine (moraineref04_number.calls k _ _ l0 8 4 t255 _ ?side1 ?side2 A7.out).mono ?_); (case side1 => repeat (first | exact (Kd.C_below HR0.out HB.out) | (with_reducible refine Kd.C_alloc ?_ _) | (with_reducible refine Kd.C_drewN ?_ _) | (with_reducible refine Kd.C_drew ?_))); (case side2 => exact HC0.out); rintro e w' ⟨rfl, ⟨nd, rfl⟩⟩; obtain ⟨Ao11, co11, eo11⟩ := Kd.R_slice HO254.out; subst eo11))
            go_ret3
            exact ⟨_, by first | rfl | (simp [errW_none, errW_some] <;> rfl) | (simp [*, errW_none, errW_some] <;> rfl), by first | exact Kd.R_nil _ _ _ _ _ | exact Kd.N_nil _ _ _ _ _ | exact Kd.V_nil _ _ _ _ _ | exact Kd.Q_nil _ _ _ _ _ | exact Kd.S_nil _ _ _ _ _, by repeat (first | (with_reducible first | exact HB.out | apply below_alloc | apply pw_below_drewN | apply below_drew1) | exact HB.out)⟩
          · rw [if_neg c9] at H
            have c9b0 : decide (4096 < (t251.length : Int)) = false := decide_eq_false c9
            have c9b1 : decide (4096 < t251.length) = false := decide_eq_false (by omega)
            clear c9
            replace H := Option.bind_eq_some_iff.mp H
            obtain ⟨t256, A120, H⟩ := H
            replace H : (if t256 = true then (some (t250, t251, 0)) else (some (0, ([] : List (S65)), 41))) = some (r1, r2, r3) := H
            have A12 := Aside0.mk A120
            clear A120
            by_cases c13 : t256 = true
            · subst c13
              have H1 : (some (t250, t251, 0)) = some (r1, r2, r3) := by rw [if_pos rfl] at H; exact H
              clear H
              have H := H1
              clear H1
              simp only [Option.some.injEq, Prod.mk.injEq] at H
              obtain ⟨rfl, rfl, rfl⟩ := H
              go_enter Try.func34, Try.ntmps34
              go_wp2_with (first | ((with_reducible refine gate_callee (f := 40) rfl ?_); refine goesL_ (some 13) rfl rfl Try.func40 (by kernel_rfl) rfl #[.slice A0 l0.length c0] rfl (by (try simp only [List.map_toArray, List.map_cons, List.map_nil]); first | done | rfl | (simp only [List.length_drop, List.length_take]; rfl)) ?_; (with_reducible refine (moraineref04_Walked.calls k _ _ l0 t250 t251 t252 _ ?side1 ?side2 A3.out).mono ?_); (case side1 => repeat (first | exact HR0.out | (with_reducible refine Kd.C_alloc ?_ _) | (with_reducible refine Kd.C_drewN ?_ _) | (with_reducible refine Kd.C_drew ?_))); (case side2 => exact HC0.out); rintro e w14 ⟨v253, rfl, ho0, hb⟩; refine ⟨_, rfl, ?_⟩; have n0_ := Aside0.mk (Kd.R_lower ho0 (below_size (by repeat (first | (with_reducible first | exact HB.out | apply below_alloc | apply pw_below_drewN | apply below_drew1) | exact HB.out)))); have n1_ := Aside0.mk (below_step (by repeat (first | (with_reducible first | exact HB.out | apply below_alloc | apply pw_below_drewN | apply below_drew1) | exact HB.out)) hb); clear HB; have HO254 := n0_; have HB := n1_; clear n0_ n1_; (try clear hb); (try clear hb2); (try clear hk); (try clear hi); (try clear ho0)) | (go_at_call 64; (with_reducible refine (moraineref04_number.calls k _ _ l0 8 4 t255 _ ?side1 ?side2 A7.out).mono ?_); (case side1 => repeat (first | exact (Kd.C_below HR0.out HB.out) | (with_reducible refine Kd.C_alloc ?_ _) | (with_reducible refine Kd.C_drewN ?_ _) | (with_reducible refine Kd.C_drew ?_))); (case side2 => exact HC0.out); rintro e w' ⟨rfl, ⟨nd, rfl⟩⟩; obtain ⟨Ao15, co15, eo15⟩ := Kd.R_slice HO254.out; subst eo15) | (go_at_call 57; (with_reducible refine (moraineref04_Fit.calls t250 (t251.length : Int) true _ A12.out).mono ?_); rintro e w' ⟨rfl, ⟨nd, rfl⟩⟩))
              go_ret3
              exact ⟨_, by first | rfl | (simp [errW_none, errW_some] <;> rfl) | (simp [*, errW_none, errW_some] <;> rfl), by (with_reducible repeat (first | apply Kd.R_alloc | apply Kd.R_drewN | apply Kd.R_drew)); exact HO254.out, by repeat (first | (with_reducible first | exact HB.out | apply below_alloc | apply pw_below_drewN | apply below_drew1) | exact HB.out)⟩
            · replace c13 := Bool.eq_false_iff.mpr c13
              subst c13
              have H1 : (some (0, ([] : List (S65)), 41)) = some (r1, r2, r3) := by rw [if_neg (show ¬ (false = true) by decide)] at H; exact H
              clear H
              have H := H1
              clear H1
              simp only [Option.some.injEq, Prod.mk.injEq] at H
              obtain ⟨rfl, rfl, rfl⟩ := H
              go_enter Try.func34, Try.ntmps34
              go_wp2_with (first | ((with_reducible refine gate_callee (f := 40) rfl ?_); refine goesL_ (some 13) rfl rfl Try.func40 (by kernel_rfl) rfl #[.slice A0 l0.length c0] rfl (by (try simp only [List.map_toArray, List.map_cons, List.map_nil]); first | done | rfl | (simp only [List.length_drop, List.length_take]; rfl)) ?_; (with_reducible refine (moraineref04_Walked.calls k _ _ l0 t250 t251 t252 _ ?side1 ?side2 A3.out).mono ?_); (case side1 => repeat (first | exact HR0.out | (with_reducible refine Kd.C_alloc ?_ _) | (with_reducible refine Kd.C_drewN ?_ _) | (with_reducible refine Kd.C_drew ?_))); (case side2 => exact HC0.out); rintro e w16 ⟨v253, rfl, ho0, hb⟩; refine ⟨_, rfl, ?_⟩; have n0_ := Aside0.mk (Kd.R_lower ho0 (below_size (by repeat (first | (with_reducible first | exact HB.out | apply below_alloc | apply pw_below_drewN | apply below_drew1) | exact HB.out)))); have n1_ := Aside0.mk (below_step (by repeat (first | (with_reducible first | exact HB.out | apply below_alloc | apply pw_below_drewN | apply below_drew1) | exact HB.out)) hb); clear HB; have HO254 := n0_; have HB := n1_; clear n0_ n1_; (try clear hb); (try clear hb2); (try clear hk); (try clear hi); (try clear ho0)) | (go_at_call 64; (with_reducible refine (moraineref04_number.calls k _ _ l0 8 4 t255 _ ?side1 ?side2 A7.out).mono ?_); (case side1 => repeat (first | exact (Kd.C_below HR0.out HB.out) | (with_reducible refine Kd.C_alloc ?_ _) | (with_reducible refine Kd.C_drewN ?_ _) | (with_reducible refine Kd.C_drew ?_))); (case side2 => exact HC0.out); rintro e w' ⟨rfl, ⟨nd, rfl⟩⟩; obtain ⟨Ao17, co17, eo17⟩ := Kd.R_slice HO254.out; subst eo17) | (go_at_call 57; (with_reducible refine (moraineref04_Fit.calls t250 (t251.length : Int) false _ A12.out).mono ?_); rintro e w' ⟨rfl, ⟨nd, rfl⟩⟩))
              go_ret3
              exact ⟨_, by first | rfl | (simp [errW_none, errW_some] <;> rfl) | (simp [*, errW_none, errW_some] <;> rfl), by first | exact Kd.R_nil _ _ _ _ _ | exact Kd.N_nil _ _ _ _ _ | exact Kd.V_nil _ _ _ _ _ | exact Kd.Q_nil _ _ _ _ _ | exact Kd.S_nil _ _ _ _ _, by repeat (first | (with_reducible first | exact HB.out | apply below_alloc | apply pw_below_drewN | apply below_drew1) | exact HB.out)⟩
        · rw [if_neg c8] at H
          have c8b0 : ((wrap64 (t255)) == (t251.length : Int)) = false := beq_eq_false_iff_ne.mpr c8
          have c8b1 : ((wrap64 (t255)) != (t251.length : Int)) = true := bne_iff_ne.mpr c8
          simp only [Option.some.injEq, Prod.mk.injEq] at H
          obtain ⟨rfl, rfl, rfl⟩ := H
          go_enter Try.func34, Try.ntmps34
          go_wp2_with (first | ((with_reducible refine gate_callee (f := 40) rfl ?_); refine goesL_ (some 13) rfl rfl Try.func40 (by kernel_rfl) rfl #[.slice A0 l0.length c0] rfl (by (try simp only [List.map_toArray, List.map_cons, List.map_nil]); first | done | rfl | (simp only [List.length_drop, List.length_take]; rfl)) ?_; (with_reducible refine (moraineref04_Walked.calls k _ _ l0 t250 t251 t252 _ ?side1 ?side2 A3.out).mono ?_); (case side1 => repeat (first | exact HR0.out | (with_reducible refine Kd.C_alloc ?_ _) | (with_reducible refine Kd.C_drewN ?_ _) | (with_reducible refine Kd.C_drew ?_))); (case side2 => exact HC0.out); rintro e w18 ⟨v253, rfl, ho0, hb⟩; refine ⟨_, rfl, ?_⟩; have n0_ := Aside0.mk (Kd.R_lower ho0 (below_size (by repeat (first | (with_reducible first | exact HB.out | apply below_alloc | apply pw_below_drewN | apply below_drew1) | exact HB.out)))); have n1_ := Aside0.mk (below_step (by repeat (first | (with_reducible first | exact HB.out | apply below_alloc | apply pw_below_drewN | apply below_drew1) | exact HB.out)) hb); clear HB; have HO254 := n0_; have HB := n1_; clear n0_ n1_; (try clear hb); (try clear hb2); (try clear hk); (try clear hi); (try clear ho0)) | (go_at_call 64; (with_reducible refine (moraineref04_number.calls k _ _ l0 8 4 t255 _ ?side1 ?side2 A7.out).mono ?_); (case side1 => repeat (first | exact (Kd.C_below HR0.out HB.out) | (with_reducible refine Kd.C_alloc ?_ _) | (with_reducible refine Kd.C_drewN ?_ _) | (with_reducible refine Kd.C_drew ?_))); (case side2 => exact HC0.out); rintro e w' ⟨rfl, ⟨nd, rfl⟩⟩; obtain ⟨Ao19, co19, eo19⟩ := Kd.R_slice HO254.out; subst eo19))
          go_ret3
          exact ⟨_, by first | rfl | (simp [errW_none, errW_some] <;> rfl) | (simp [*, errW_none, errW_some] <;> rfl), by first | exact Kd.R_nil _ _ _ _ _ | exact Kd.N_nil _ _ _ _ _ | exact Kd.V_nil _ _ _ _ _ | exact Kd.Q_nil _ _ _ _ _ | exact Kd.S_nil _ _ _ _ _, by repeat (first | (with_reducible first | exact HB.out | apply below_alloc | apply pw_below_drewN | apply below_drew1) | exact HB.out)⟩
      · rw [if_neg c6] at H
        have c6b0 : (t252 == (l0.length : Int)) = false := beq_eq_false_iff_ne.mpr c6
        have c6b1 : (t252 != (l0.length : Int)) = true := bne_iff_ne.mpr c6
        simp only [Option.some.injEq, Prod.mk.injEq] at H
        obtain ⟨rfl, rfl, rfl⟩ := H
        go_enter Try.func34, Try.ntmps34
        go_wp2_with (first | ((with_reducible refine gate_callee (f := 40) rfl ?_); refine goesL_ (some 13) rfl rfl Try.func40 (by kernel_rfl) rfl #[.slice A0 l0.length c0] rfl (by (try simp only [List.map_toArray, List.map_cons, List.map_nil]); first | done | rfl | (simp only [List.length_drop, List.length_take]; rfl)) ?_; (with_reducible refine (moraineref04_Walked.calls k _ _ l0 t250 t251 t252 _ ?side1 ?side2 A3.out).mono ?_); (case side1 => repeat (first | exact HR0.out | (with_reducible refine Kd.C_alloc ?_ _) | (with_reducible refine Kd.C_drewN ?_ _) | (with_reducible refine Kd.C_drew ?_))); (case side2 => exact HC0.out); rintro e w20 ⟨v253, rfl, ho0, hb⟩; refine ⟨_, rfl, ?_⟩; have n0_ := Aside0.mk (Kd.R_lower ho0 (below_size (by repeat (first | (with_reducible first | exact HB.out | apply below_alloc | apply pw_below_drewN | apply below_drew1) | exact HB.out)))); have n1_ := Aside0.mk (below_step (by repeat (first | (with_reducible first | exact HB.out | apply below_alloc | apply pw_below_drewN | apply below_drew1) | exact HB.out)) hb); clear HB; have HO254 := n0_; have HB := n1_; clear n0_ n1_; (try clear hb); (try clear hb2); (try clear hk); (try clear hi); (try clear ho0)))
        go_ret3
        exact ⟨_, by first | rfl | (simp [errW_none, errW_some] <;> rfl) | (simp [*, errW_none, errW_some] <;> rfl), by first | exact Kd.R_nil _ _ _ _ _ | exact Kd.N_nil _ _ _ _ _ | exact Kd.V_nil _ _ _ _ _ | exact Kd.Q_nil _ _ _ _ _ | exact Kd.S_nil _ _ _ _ _, by repeat (first | (with_reducible first | exact HB.out | apply below_alloc | apply pw_below_drewN | apply below_drew1) | exact HB.out)⟩

end Go.Proofs.Ythkooncibfkepaa.G

/- Printed by the session's program over the kit's print, out of the translation: functions as plain Lean functions, and the proofs that the calls come to them. -/
namespace Go.Proofs.Ythkooncibfkepaa.G
open Go.RowKit Go.Proofs.YthkooncibfkepaaW.PrintWords Go.Proofs.YthkooncibfkepaaW.PrintLast Go.Proofs.YthkooncibfkepaaW.PrintMore
attribute [local go_sem] max2_int min2_int max_two min_two max_three min_three max_four min_four   -- for this text's walks alone
set_option linter.unusedVariables false
set_option linter.unusedSimpArgs false

/-! ### moraineref04_Renumber: function 43 -/
def moraineref04_Renumber.f (k : Nat) (l0 : List Int) (a1 : Int) : Option (List Int × Int) := (moraineref04_Decode.f k l0).bind fun bt259 => (if bt259.2.2 = 0 then ((moraineref04_Encode.f k a1 bt259.2.1).bind fun bt264 => (some (bt264.1, bt264.2))) else (some (([] : List Int), bt259.2.2)))
theorem moraineref04_Renumber.mono : ∀ a0 a1 k, LeO (moraineref04_Renumber.f k a0 a1) (moraineref04_Renumber.f (k + 1) a0 a1) := by
  intro a0 a1 k
  unfold moraineref04_Renumber.f
  repeat' first
      | (with_reducible exact moraineref04_Decode.mono _ _)
      | (with_reducible exact moraineref04_Encode.mono _ _ _)
      | (with_reducible exact LeO.refl _)
      | (with_reducible exact LeO.none _)
      | (with_reducible refine LeO.ite ?_ ?_)
      | (with_reducible refine LeO.bind ?_ (fun _ => ?_))
      | exact moraineref04_Decode.mono _ _
      | exact moraineref04_Encode.mono _ _ _
      | exact LeO.none _
      | refine LeO.ite ?_ ?_
      | refine LeO.bind ?_ (fun _ => ?_)
set_option maxHeartbeats 8000000 in
set_option maxRecDepth 100000 in
theorem moraineref04_Renumber.calls (k : Nat) (A0 : Option Addr) (c0 : Nat) (l0 : List Int) (a1 : Int) (r1 : List Int) (r2 : Int) (w : World) (hr0 : Kd.C (Kd.int .u8) w A0 l0.length l0) (hc0 : l0.length ≤ c0) (h : moraineref04_Renumber.f k l0 a1 = some (r1, r2)) :
    Calls Try.prog 43 #[.slice A0 l0.length c0, .int .u64 a1] w fun e w' => ∃ v0_ : Value, e = .returned (.tuple #[v0_, .int .i64 r2]) ∧ Kd.R (Kd.int .u8) 5 w' w.heap.size (fun _ => True) v0_ r1 ∧ Below w.heap.size w w' := by
  have HR0 := Aside0.mk hr0
  have HC0 := Aside0.mk hc0
  clear hr0 hc0
  have HB := Aside0.mk (Below.refl w.heap.size w)
  have H : ((moraineref04_Decode.f k l0).bind fun bt259 => (if bt259.2.2 = 0 then ((moraineref04_Encode.f k a1 bt259.2.1).bind fun bt264 => (some (bt264.1, bt264.2))) else (some (([] : List Int), bt259.2.2)))) = some (r1, r2) := h
  clear h
  replace H := Option.bind_eq_some_iff.mp H
  obtain ⟨⟨t259, t260, t261⟩, A30, H⟩ := H
  replace H : (if t261 = 0 then ((moraineref04_Encode.f k a1 t260).bind fun bt264 => (some (bt264.1, bt264.2))) else (some (([] : List Int), t261))) = some (r1, r2) := H
  have A3 := Aside0.mk A30
  clear A30
  by_cases c4 : t261 = 0
  · rw [if_pos c4] at H
    have c4b0 : (t261 == 0) = true := beq_iff_eq.mpr c4
    have c4b1 : (t261 != 0) = false := bne_eq_false_iff_eq.mpr c4
    clear c4
    replace H := Option.bind_eq_some_iff.mp H
    obtain ⟨⟨t264, t265⟩, A50, H⟩ := H
    replace H : (some (t264, t265)) = some (r1, r2) := H
    have A5 := Aside0.mk A50
    clear A50
    simp only [Option.some.injEq, Prod.mk.injEq] at H
    obtain ⟨rfl, rfl⟩ := H
    go_enter Try.func43, Try.ntmps43
    go_wp2_with (first | ((with_reducible refine gate_callee (f := 34) rfl ?_); refine goesL_ (some 11) rfl rfl Try.func34 (by kernel_rfl) rfl #[.slice A0 l0.length c0] rfl (by (try simp only [List.map_toArray, List.map_cons, List.map_nil]); first | done | rfl | (simp only [List.length_drop, List.length_take]; rfl)) ?_; (with_reducible refine (moraineref04_Decode.calls k _ _ l0 t259 t260 t261 _ ?side1 ?side2 A3.out).mono ?_); (case side1 => repeat (first | exact HR0.out | (with_reducible refine Kd.C_alloc ?_ _) | (with_reducible refine Kd.C_drewN ?_ _) | (with_reducible refine Kd.C_drew ?_))); (case side2 => exact HC0.out); rintro e w6 ⟨v262, rfl, ho0, hb⟩; refine ⟨_, rfl, ?_⟩; have n0_ := Aside0.mk (Kd.R_lower ho0 (below_size (by repeat (first | (with_reducible first | exact HB.out | apply below_alloc | apply pw_below_drewN | apply below_drew1) | exact HB.out)))); have n1_ := Aside0.mk (below_step (by repeat (first | (with_reducible first | exact HB.out | apply below_alloc | apply pw_below_drewN | apply below_drew1) | exact HB.out)) hb); clear HB; have HO263 := n0_; have HB := n1_; clear n0_ n1_; (try clear hb); (try clear hb2); (try clear hk); (try clear hi); (try clear ho0); obtain ⟨Ao7, co7, eo7⟩ := Kd.R_slice HO263.out; subst eo7) | ((with_reducible refine gate_callee (f := 22) rfl ?_); refine goesL_ (some 20) rfl rfl Try.func22 (by kernel_rfl) rfl #[.int .u64 a1, .slice Ao7 t260.length co7] rfl (by (try simp only [List.map_toArray, List.map_cons, List.map_nil]); first | done | rfl | (simp only [List.length_drop, List.length_take]; rfl)) ?_; (with_reducible refine (moraineref04_Encode.calls k a1 _ _ t260 t264 t265 _ ?side1 ?side2 A5.out).mono ?_); (case side1 => repeat (first | exact (Kd.R_reads' HO263.out).2.2 | (with_reducible refine Kd.C_alloc ?_ _) | (with_reducible refine Kd.C_drewN ?_ _) | (with_reducible refine Kd.C_drew ?_))); (case side2 => exact (Kd.R_reads' HO263.out).2.1); rintro e w8 ⟨v266, rfl, ho0, hb⟩; refine ⟨_, rfl, ?_⟩; have n0_ := Aside0.mk (Kd.R_below (by (with_reducible repeat (first | apply Kd.R_alloc | apply Kd.R_drewN | apply Kd.R_drew)); exact HO263.out) hb); have n1_ := Aside0.mk (Kd.R_lower ho0 (below_size (by repeat (first | (with_reducible first | exact HB.out | apply below_alloc | apply pw_below_drewN | apply below_drew1) | exact HB.out)))); have n2_ := Aside0.mk (below_step (by repeat (first | (with_reducible first | exact HB.out | apply below_alloc | apply pw_below_drewN | apply below_drew1) | exact HB.out)) hb); clear HO263; clear HB; have HO263 := n0_; have HO267 := n1_; have HB := n2_; clear n0_ n1_ n2_; (try clear hb); (try clear hb2); (try clear hk); (try clear hi); (try clear ho0)))
    go_ret2
    exact ⟨_, by first | rfl | (simp [errW_none, errW_some] <;> rfl) | (simp [*, errW_none, errW_some] <;> rfl), by (with_reducible repeat (first | apply Kd.R_alloc | apply Kd.R_drewN | apply Kd.R_drew)); exact HO267.out, by repeat (first | (with_reducible first | exact HB.out | apply below_alloc | apply pw_below_drewN | apply below_drew1) | exact HB.out)⟩
  · rw [if_neg c4] at H
    have c4b0 : (t261 == 0) = false := beq_eq_false_iff_ne.mpr c4
    have c4b1 : (t261 != 0) = true := bne_iff_ne.mpr c4
    simp only [Option.some.injEq, Prod.mk.injEq] at H
    obtain ⟨rfl, rfl⟩ := H
    go_enter Try.func43, Try.ntmps43
    go_wp2_with (first | ((with_reducible refine gate_callee (f := 34) rfl ?_); refine goesL_ (some 11) rfl rfl Try.func34 (by kernel_rfl) rfl #[.slice A0 l0.length c0] rfl (by (try simp only [List.map_toArray, List.map_cons, List.map_nil]); first | done | rfl | (simp only [List.length_drop, List.length_take]; rfl)) ?_; (with_reducible refine (moraineref04_Decode.calls k _ _ l0 t259 t260 t261 _ ?side1 ?side2 A3.out).mono ?_); (case side1 => repeat (first | exact HR0.out | (with_reducible refine Kd.C_alloc ?_ _) | (with_reducible refine Kd.C_drewN ?_ _) | (with_reducible refine Kd.C_drew ?_))); (case side2 => exact HC0.out); rintro e w9 ⟨v262, rfl, ho0, hb⟩; refine ⟨_, rfl, ?_⟩; have n0_ := Aside0.mk (Kd.R_lower ho0 (below_size (by repeat (first | (with_reducible first | exact HB.out | apply below_alloc | apply pw_below_drewN | apply below_drew1) | exact HB.out)))); have n1_ := Aside0.mk (below_step (by repeat (first | (with_reducible first | exact HB.out | apply below_alloc | apply pw_below_drewN | apply below_drew1) | exact HB.out)) hb); clear HB; have HO263 := n0_; have HB := n1_; clear n0_ n1_; (try clear hb); (try clear hb2); (try clear hk); (try clear hi); (try clear ho0)))
    go_ret2
    exact ⟨_, by first | rfl | (simp [errW_none, errW_some] <;> rfl) | (simp [*, errW_none, errW_some] <;> rfl), by first | exact Kd.R_nil _ _ _ _ _ | exact Kd.N_nil _ _ _ _ _ | exact Kd.V_nil _ _ _ _ _ | exact Kd.Q_nil _ _ _ _ _ | exact Kd.S_nil _ _ _ _ _, by repeat (first | (with_reducible first | exact HB.out | apply below_alloc | apply pw_below_drewN | apply below_drew1) | exact HB.out)⟩

end Go.Proofs.Ythkooncibfkepaa.G

/- Printed by the session's program over the kit's print, out of the translation: functions as plain Lean functions, and the proofs that the calls come to them. -/
namespace Go.Proofs.Ythkooncibfkepaa.G
open Go.RowKit Go.Proofs.YthkooncibfkepaaW.PrintWords Go.Proofs.YthkooncibfkepaaW.PrintLast Go.Proofs.YthkooncibfkepaaW.PrintMore
attribute [local go_sem] max2_int min2_int max_two min_two max_three min_three max_four min_four   -- for this text's walks alone
set_option linter.unusedVariables false
set_option linter.unusedSimpArgs false

/-! ### moraineref04_Join: function 45 -/
def moraineref04_Join.f (k : Nat) (l0 : List Int) (l1 : List Int) : Option (List Int × Int) := (moraineref04_Decode.f k l0).bind fun bt268 => ((moraineref04_Decode.f k l1).bind fun bt273 => (if bt268.2.2 = 0 then (if bt273.2.2 = 0 then ((some (([] : List (S65)) : List (S65))).bind fun y278 => (if y278.length + bt268.2.1.length < 3518437208883 then ((some (y278 ++ bt268.2.1 : List (S65))).bind fun y281 => (if y281.length + bt273.2.1.length < 3518437208883 then ((moraineref04_Encode.f k bt268.1 (y281 ++ bt273.2.1)).bind fun bt287 => (some (bt287.1, bt287.2))) else (none))) else (none))) else (some (([] : List Int), 41))) else (some (([] : List Int), 41))))
theorem moraineref04_Join.mono : ∀ a0 a1 k, LeO (moraineref04_Join.f k a0 a1) (moraineref04_Join.f (k + 1) a0 a1) := by
  intro a0 a1 k
  unfold moraineref04_Join.f
  repeat' first
      | (with_reducible exact moraineref04_Decode.mono _ _)
      | (with_reducible exact moraineref04_Encode.mono _ _ _)
      | (with_reducible exact LeO.refl _)
      | (with_reducible exact LeO.none _)
      | (with_reducible refine LeO.ite ?_ ?_)
      | (with_reducible refine LeO.bind ?_ (fun _ => ?_))
      | exact moraineref04_Decode.mono _ _
      | exact moraineref04_Encode.mono _ _ _
      | exact LeO.none _
      | refine LeO.ite ?_ ?_
      | refine LeO.bind ?_ (fun _ => ?_)
set_option maxHeartbeats 8000000 in
set_option maxRecDepth 100000 in
theorem moraineref04_Join.calls (k : Nat) (A0 : Option Addr) (c0 : Nat) (l0 : List Int) (A1 : Option Addr) (c1 : Nat) (l1 : List Int) (r1 : List Int) (r2 : Int) (w : World) (hr0 : Kd.C (Kd.int .u8) w A0 l0.length l0) (hc0 : l0.length ≤ c0) (hr1 : Kd.C (Kd.int .u8) w A1 l1.length l1) (hc1 : l1.length ≤ c1) (h : moraineref04_Join.f k l0 l1 = some (r1, r2)) :
    Calls Try.prog 45 #[.slice A0 l0.length c0, .slice A1 l1.length c1] w fun e w' => ∃ v0_ : Value, e = .returned (.tuple #[v0_, .int .i64 r2]) ∧ Kd.R (Kd.int .u8) 5 w' w.heap.size (fun _ => True) v0_ r1 ∧ Below w.heap.size w w' := by
  have HR0 := Aside0.mk hr0
  have HC0 := Aside0.mk hc0
  clear hr0 hc0
  have HR1 := Aside0.mk hr1
  have HC1 := Aside0.mk hc1
  clear hr1 hc1
  have HB := Aside0.mk (Below.refl w.heap.size w)
  have H : ((moraineref04_Decode.f k l0).bind fun bt268 => ((moraineref04_Decode.f k l1).bind fun bt273 => (if bt268.2.2 = 0 then (if bt273.2.2 = 0 then ((some (([] : List (S65)) : List (S65))).bind fun y278 => (if y278.length + bt268.2.1.length < 3518437208883 then ((some (y278 ++ bt268.2.1 : List (S65))).bind fun y281 => (if y281.length + bt273.2.1.length < 3518437208883 then ((moraineref04_Encode.f k bt268.1 (y281 ++ bt273.2.1)).bind fun bt287 => (some (bt287.1, bt287.2))) else (none))) else (none))) else (some (([] : List Int), 41))) else (some (([] : List Int), 41))))) = some (r1, r2) := h
  clear h
  replace H := Option.bind_eq_some_iff.mp H
  obtain ⟨⟨t268, t269, t270⟩, A30, H⟩ := H
  replace H : ((moraineref04_Decode.f k l1).bind fun bt273 => (if t270 = 0 then (if bt273.2.2 = 0 then ((some (([] : List (S65)) : List (S65))).bind fun y278 => (if y278.length + t269.length < 3518437208883 then ((some (y278 ++ t269 : List (S65))).bind fun y281 => (if y281.length + bt273.2.1.length < 3518437208883 then ((moraineref04_Encode.f k t268 (y281 ++ bt273.2.1)).bind fun bt287 => (some (bt287.1, bt287.2))) else (none))) else (none))) else (some (([] : List Int), 41))) else (some (([] : List Int), 41)))) = some (r1, r2) := H
  have A3 := Aside0.mk A30
  clear A30
  replace H := Option.bind_eq_some_iff.mp H
  obtain ⟨⟨t273, t274, t275⟩, A40, H⟩ := H
  replace H : (if t270 = 0 then (if t275 = 0 then ((some (([] : List (S65)) : List (S65))).bind fun y278 => (if y278.length + t269.length < 3518437208883 then ((some (y278 ++ t269 : List (S65))).bind fun y281 => (if y281.length + t274.length < 3518437208883 then ((moraineref04_Encode.f k t268 (y281 ++ t274)).bind fun bt287 => (some (bt287.1, bt287.2))) else (none))) else (none))) else (some (([] : List Int), 41))) else (some (([] : List Int), 41))) = some (r1, r2) := H
  have A4 := Aside0.mk A40
  clear A40
  by_cases c5 : t270 = 0
  · rw [if_pos c5] at H
    have c5b0 : (t270 == 0) = true := beq_iff_eq.mpr c5
    have c5b1 : (t270 != 0) = false := bne_eq_false_iff_eq.mpr c5
    clear c5
    by_cases c6 : t275 = 0
    · rw [if_pos c6] at H
      have c6b0 : (t275 == 0) = true := beq_iff_eq.mpr c6
      have c6b1 : (t275 != 0) = false := bne_eq_false_iff_eq.mpr c6
      clear c6
      obtain ⟨y278, hy278⟩ : ∃ y_ : List (S65), y_ = (([] : List (S65))) := ⟨_, rfl⟩
      replace H : (if y278.length + t269.length < 3518437208883 then ((some (y278 ++ t269 : List (S65))).bind fun y281 => (if y281.length + t274.length < 3518437208883 then ((moraineref04_Encode.f k t268 (y281 ++ t274)).bind fun bt287 => (some (bt287.1, bt287.2))) else (none))) else (none)) = some (r1, r2) := by first | (rw [hy278]; with_reducible exact H) | (have H2_ := (Option.bind_some _ _).symm.trans H; rw [hy278]; with_reducible exact H2_) | (have H2_ := (Option.bind_some _ _).symm.trans H; with_reducible exact H2_) | with_reducible exact H | (rw [hy278]; exact H) | exact H
      have Ny278 := Aside0.mk hy278
      clear hy278
      by_cases c7 : y278.length + t269.length < 3518437208883
      · rw [if_pos c7] at H
        have LMc7 := Aside0.mk c7
        clear c7
        obtain ⟨y281, hy281⟩ : ∃ y_ : List (S65), y_ = (y278 ++ t269) := ⟨_, rfl⟩
        replace H : (if y281.length + t274.length < 3518437208883 then ((moraineref04_Encode.f k t268 (y281 ++ t274)).bind fun bt287 => (some (bt287.1, bt287.2))) else (none)) = some (r1, r2) := by first | (rw [hy281]; with_reducible exact H) | (have H2_ := (Option.bind_some _ _).symm.trans H; rw [hy281]; with_reducible exact H2_) | (have H2_ := (Option.bind_some _ _).symm.trans H; with_reducible exact H2_) | with_reducible exact H | (rw [hy281]; exact H) | exact H
        have Ny281 := Aside0.mk hy281
        clear hy281
        by_cases c8 : y281.length + t274.length < 3518437208883
        · rw [if_pos c8] at H
          have LMc8 := Aside0.mk c8
          clear c8
          obtain ⟨y284, hy284⟩ : ∃ y_ : List (S65), y_ = (y281 ++ t274) := ⟨_, rfl⟩
          replace H : ((moraineref04_Encode.f k t268 y284).bind fun bt287 => (some (bt287.1, bt287.2))) = some (r1, r2) := by first | (rw [hy284]; with_reducible exact H) | (have H2_ := (Option.bind_some _ _).symm.trans H; rw [hy284]; with_reducible exact H2_) | (have H2_ := (Option.bind_some _ _).symm.trans H; with_reducible exact H2_) | with_reducible exact H | (rw [hy284]; exact H) | exact H
          have Ny284 := Aside0.mk hy284
          clear hy284
          replace H := Option.bind_eq_some_iff.mp H
          obtain ⟨⟨t287, t288⟩, A90, H⟩ := H
          replace H : (some (t287, t288)) = some (r1, r2) := H
          have A9 := Aside0.mk A90
          clear A90
          simp only [Option.some.injEq, Prod.mk.injEq] at H
          obtain ⟨rfl, rfl⟩ := H
          go_enter Try.func45, Try.ntmps45
          go_wp2_with (first | ((with_reducible refine gate_callee (f := 34) rfl ?_); refine goesL_ (some 14) rfl rfl Try.func34 (by kernel_rfl) rfl #[.slice A0 l0.length c0] rfl (by (try simp only [List.map_toArray, List.map_cons, List.map_nil]); first | done | rfl | (simp only [List.length_drop, List.length_take]; rfl)) ?_; (with_reducible refine (moraineref04_Decode.calls k _ _ l0 t268 t269 t270 _ ?side1 ?side2 A3.out).mono ?_); (case side1 => repeat (first | exact HR0.out | (with_reducible refine Kd.C_alloc ?_ _) | (with_reducible refine Kd.C_drewN ?_ _) | (with_reducible refine Kd.C_drew ?_))); (case side2 => exact HC0.out); rintro e w10 ⟨v271, rfl, ho0, hb⟩; refine ⟨_, rfl, ?_⟩; have n0_ := Aside0.mk (Kd.R_lower ho0 (below_size (by repeat (first | (with_reducible first | exact HB.out | apply below_alloc | apply pw_below_drewN | apply below_drew1) | exact HB.out)))); have n1_ := Aside0.mk (below_step (by repeat (first | (with_reducible first | exact HB.out | apply below_alloc | apply pw_below_drewN | apply below_drew1) | exact HB.out)) hb); clear HB; have HO272 := n0_; have HB := n1_; clear n0_ n1_; (try clear hb); (try clear hb2); (try clear hk); (try clear hi); (try clear ho0)) | ((with_reducible refine gate_callee (f := 34) rfl ?_); refine goesL_ (some 20) rfl rfl Try.func34 (by kernel_rfl) rfl #[.slice A1 l1.length c1] rfl (by (try simp only [List.map_toArray, List.map_cons, List.map_nil]); first | done | rfl | (simp only [List.length_drop, List.length_take]; rfl)) ?_; (with_reducible refine (moraineref04_Decode.calls k _ _ l1 t273 t274 t275 _ ?side1 ?side2 A4.out).mono ?_); (case side1 => repeat (first | exact (Kd.C_below HR1.out HB.out) | (with_reducible refine Kd.C_alloc ?_ _) | (with_reducible refine Kd.C_drewN ?_ _) | (with_reducible refine Kd.C_drew ?_))); (case side2 => exact HC1.out); rintro e w11 ⟨v276, rfl, ho0, hb⟩; refine ⟨_, rfl, ?_⟩; have n0_ := Aside0.mk (Kd.R_elder' (by (with_reducible repeat (first | apply Kd.R_alloc | apply Kd.R_drewN | apply Kd.R_drew)); exact HO272.out) (Kd.R_base ho0) hb); have n1_ := Aside0.mk (Kd.R_lower (Kd.R_new' ho0 (Kd.R_lt (by (with_reducible repeat (first | apply Kd.R_alloc | apply Kd.R_drewN | apply Kd.R_drew)); exact HO272.out))) (below_size (by repeat (first | (with_reducible first | exact HB.out | apply below_alloc | apply pw_below_drewN | apply below_drew1) | exact HB.out)))); have n2_ := Aside0.mk (below_step (by repeat (first | (with_reducible first | exact HB.out | apply below_alloc | apply pw_below_drewN | apply below_drew1) | exact HB.out)) hb); clear HO272; clear HB; have HO272 := n0_; have HO277 := n1_; have HB := n2_; clear n0_ n1_ n2_; (try clear hb); (try clear hb2); (try clear hk); (try clear hi); (try clear ho0)) | ((with_reducible refine gate_dst (N := 31) rfl ?_); refine Kd.R_lit k65 _ 65 ?hg (N := 31) ?hd (xs := ([] : List (S65))) (inner := []) (ok := fun _ => True) (okp := fun _ => True) ?hr ?hp (fun _ hk => hk) trivial (Below.refl _ _) (Nat.le_refl _) (by simp) ?_; (case hd => rfl); (case hg => rfl); (case hr => first | (go_simp; done) | (go_simp; rfl)); (case hp => exact (Reps.none _ _)); intro v279 w12 ho13 hb hg_ hnew_; clear hg_ hnew_; (first | rw [← Ny278.out] at ho13 | (simp only [Int.reduceToNat] at ho13; rw [← Ny278.out] at ho13)); have n0_ := Aside0.mk (Kd.R_elder' (by (with_reducible repeat (first | apply Kd.R_alloc | apply Kd.R_drewN | apply Kd.R_drew)); exact HO272.out) (Kd.R_base ho13) hb); have n1_ := Aside0.mk (Kd.R_elder' (by (with_reducible repeat (first | apply Kd.R_alloc | apply Kd.R_drewN | apply Kd.R_drew)); exact HO277.out) (Kd.R_base ho13) hb); have n2_ := Aside0.mk (Kd.R_lower (Kd.R_new' (Kd.R_new' ho13 (Kd.R_lt (by (with_reducible repeat (first | apply Kd.R_alloc | apply Kd.R_drewN | apply Kd.R_drew)); exact HO272.out))) (Kd.R_lt (by (with_reducible repeat (first | apply Kd.R_alloc | apply Kd.R_drewN | apply Kd.R_drew)); exact HO277.out))) (below_size (by repeat (first | (with_reducible first | exact HB.out | apply below_alloc | apply pw_below_drewN | apply below_drew1) | exact HB.out)))); have n3_ := Aside0.mk (below_step (by repeat (first | (with_reducible first | exact HB.out | apply below_alloc | apply pw_below_drewN | apply below_drew1) | exact HB.out)) hb); clear HO272; clear HO277; clear HB; have HO272 := n0_; have HO277 := n1_; have HO280 := n2_; have HB := n3_; clear n0_ n1_ n2_ n3_; clear hb ho13; obtain ⟨Ao15, co15, eo15⟩ := Kd.R_slice HO272.out; subst eo15) | ((with_reducible refine gate_builtin (b := .append) (xs := #[.tmp 31, .tmp 32]) rfl ?_); at_builtin; refine Kd.R_append_rows k65 (w0 := w) w.heap.size rfl (.tmp 31) (.tmp 32) 22 65 (.agg #[(.int .i64 0), (.string ⟨#[]⟩), (.string ⟨#[]⟩)]) 40 rfl Try.underlying22 info65 rfl (by decide) (by omega) v279 y278 t269 _ _ _ (fun k_ => some k_ ≠ (.slice Ao15 t269.length co15 : Value).ownBlock ∧ some k_ ≠ (v276 : Value).ownBlock) (fun _ => False) rfl rfl ?aO ?aR (fun _ _ h => h) (fun _ h => h.elim) ?aF ?aB ?aS ?aL ?_; (case aR => repeat (first | exact (Kd.R_reads' HO272.out).2.2 | (with_reducible refine Kd.C_alloc ?_ _) | (with_reducible refine Kd.C_drewN ?_ _) | (with_reducible refine Kd.C_drew ?_))); (case aB => exact (by repeat (first | (with_reducible first | exact HB.out | apply below_alloc | apply pw_below_drewN | apply below_drew1) | exact HB.out))); (case aF => exact (fun k_ hk => ⟨Kd.fresh' (Kd.R_lt (by (with_reducible repeat (first | apply Kd.R_alloc | apply Kd.R_drewN | apply Kd.R_drew)); exact HO272.out)) k_ hk, Kd.fresh' (Kd.R_lt (by (with_reducible repeat (first | apply Kd.R_alloc | apply Kd.R_drewN | apply Kd.R_drew)); exact HO277.out)) k_ hk⟩)); (case aO => exact (by (with_reducible repeat (first | apply Kd.R_alloc | apply Kd.R_drewN | apply Kd.R_drew)); exact Kd.R_mono HO280.out (fun _ hk => ⟨hk.1.2, hk.2⟩))); (case aS => exact (below_size (by repeat (first | (with_reducible first | exact HB.out | apply below_alloc | apply pw_below_drewN | apply below_drew1) | exact HB.out)))); (case aL => have := LMc7.out; omega); intro v282 w14 ho hb hg hat; rw [← Ny281.out] at ho; have n0_ := Aside0.mk (Kd.R_after (ok := (fun k_ => some k_ ≠ (v276 : Value).ownBlock)) (by (with_reducible repeat (first | apply Kd.R_alloc | apply Kd.R_drewN | apply Kd.R_drew)); exact Kd.R_mono HO272.out (fun _ hk => ⟨hk.1.2, hk.2⟩)) hg hat); have n1_ := Aside0.mk (Kd.R_after (ok := (fun k_ => some k_ ≠ (.slice Ao15 t269.length co15 : Value).ownBlock)) (by (with_reducible repeat (first | apply Kd.R_alloc | apply Kd.R_drewN | apply Kd.R_drew)); exact Kd.R_mono HO277.out (fun _ hk => ⟨hk.1.2, hk.2⟩)) hg hat); have n2_ := Aside0.mk (hb); have n3_ := Aside0.mk (ho); clear HO272; clear HO277; clear HB; clear HO280; have HO272 := n0_; have HO277 := n1_; have HB := n2_; have HO283 := n3_; clear n0_ n1_ n2_ n3_; clear ho hb hg hat; obtain ⟨Ao17, co17, eo17⟩ := Kd.R_slice HO277.out; subst eo17) | ((with_reducible refine gate_builtin (b := .append) (xs := #[.tmp 33, .tmp 34]) rfl ?_); at_builtin; refine Kd.R_append_rows k65 (w0 := w) w.heap.size rfl (.tmp 33) (.tmp 34) 22 65 (.agg #[(.int .i64 0), (.string ⟨#[]⟩), (.string ⟨#[]⟩)]) 40 rfl Try.underlying22 info65 rfl (by decide) (by omega) v282 y281 t274 _ _ _ (fun k_ => some k_ ≠ (.slice Ao15 t269.length co15 : Value).ownBlock ∧ some k_ ≠ (.slice Ao17 t274.length co17 : Value).ownBlock) (fun _ => False) rfl rfl ?aO ?aR (fun _ _ h => h) (fun _ h => h.elim) ?aF ?aB ?aS ?aL ?_; (case aR => repeat (first | exact (Kd.R_reads' HO277.out).2.2 | (with_reducible refine Kd.C_alloc ?_ _) | (with_reducible refine Kd.C_drewN ?_ _) | (with_reducible refine Kd.C_drew ?_))); (case aB => exact (by repeat (first | (with_reducible first | exact HB.out | apply below_alloc | apply pw_below_drewN | apply below_drew1) | exact HB.out))); (case aF => exact (fun k_ hk => ⟨Kd.fresh' (Kd.R_lt (by (with_reducible repeat (first | apply Kd.R_alloc | apply Kd.R_drewN | apply Kd.R_drew)); exact HO272.out)) k_ hk, Kd.fresh' (Kd.R_lt (by (with_reducible repeat (first | apply Kd.R_alloc | apply Kd.R_drewN | apply Kd.R_drew)); exact HO277.out)) k_ hk⟩)); (case aO => exact (by (with_reducible repeat (first | apply Kd.R_alloc | apply Kd.R_drewN | apply Kd.R_drew)); exact HO283.out)); (case aS => exact (below_size (by repeat (first | (with_reducible first | exact HB.out | apply below_alloc | apply pw_below_drewN | apply below_drew1) | exact HB.out)))); (case aL => have := LMc8.out; omega); intro v285 w16 ho hb hg hat; rw [← Ny284.out] at ho; have n0_ := Aside0.mk (Kd.R_after (ok := (fun k_ => some k_ ≠ (.slice Ao17 t274.length co17 : Value).ownBlock)) (by (with_reducible repeat (first | apply Kd.R_alloc | apply Kd.R_drewN | apply Kd.R_drew)); exact HO272.out) hg hat); have n1_ := Aside0.mk (Kd.R_after (ok := (fun k_ => some k_ ≠ (.slice Ao15 t269.length co15 : Value).ownBlock)) (by (with_reducible repeat (first | apply Kd.R_alloc | apply Kd.R_drewN | apply Kd.R_drew)); exact HO277.out) hg hat); have n2_ := Aside0.mk (hb); have n3_ := Aside0.mk (ho); clear HO272; clear HO277; clear HB; clear HO283; have HO272 := n0_; have HO277 := n1_; have HB := n2_; have HO286 := n3_; clear n0_ n1_ n2_ n3_; clear ho hb hg hat; obtain ⟨Ao18, co18, eo18⟩ := Kd.R_slice HO286.out; subst eo18) | ((with_reducible refine gate_callee (f := 22) rfl ?_); refine goesL_ (some 36) rfl rfl Try.func22 (by kernel_rfl) rfl #[.int .u64 t268, .slice Ao18 y284.length co18] rfl (by (try simp only [List.map_toArray, List.map_cons, List.map_nil]); first | done | rfl | (simp only [List.length_drop, List.length_take]; rfl)) ?_; (with_reducible refine (moraineref04_Encode.calls k t268 _ _ y284 t287 t288 _ ?side1 ?side2 A9.out).mono ?_); (case side1 => repeat (first | exact (Kd.R_reads' HO286.out).2.2 | (with_reducible refine Kd.C_alloc ?_ _) | (with_reducible refine Kd.C_drewN ?_ _) | (with_reducible refine Kd.C_drew ?_))); (case side2 => exact (Kd.R_reads' HO286.out).2.1); rintro e w19 ⟨v289, rfl, ho0, hb⟩; refine ⟨_, rfl, ?_⟩; have n0_ := Aside0.mk (Kd.R_below (by (with_reducible repeat (first | apply Kd.R_alloc | apply Kd.R_drewN | apply Kd.R_drew)); exact HO272.out) hb); have n1_ := Aside0.mk (Kd.R_below (by (with_reducible repeat (first | apply Kd.R_alloc | apply Kd.R_drewN | apply Kd.R_drew)); exact HO277.out) hb); have n2_ := Aside0.mk (Kd.R_below (by (with_reducible repeat (first | apply Kd.R_alloc | apply Kd.R_drewN | apply Kd.R_drew)); exact HO286.out) hb); have n3_ := Aside0.mk (Kd.R_lower ho0 (below_size (by repeat (first | (with_reducible first | exact HB.out | apply below_alloc | apply pw_below_drewN | apply below_drew1) | exact HB.out)))); have n4_ := Aside0.mk (below_step (by repeat (first | (with_reducible first | exact HB.out | apply below_alloc | apply pw_below_drewN | apply below_drew1) | exact HB.out)) hb); clear HO272; clear HO277; clear HO286; clear HB; have HO272 := n0_; have HO277 := n1_; have HO286 := n2_; have HO290 := n3_; have HB := n4_; clear n0_ n1_ n2_ n3_ n4_; (try clear hb); (try clear hb2); (try clear hk); (try clear hi); (try clear ho0)))
          go_ret2
          exact ⟨_, by first | rfl | (simp [errW_none, errW_some] <;> rfl) | (simp [*, errW_none, errW_some] <;> rfl), by (with_reducible repeat (first | apply Kd.R_alloc | apply Kd.R_drewN | apply Kd.R_drew)); exact HO290.out, by repeat (first | (with_reducible first | exact HB.out | apply below_alloc | apply pw_below_drewN | apply below_drew1) | exact HB.out)⟩
        · rw [if_neg c8] at H
          exact absurd H (by simp)
      · rw [if_neg c7] at H
        exact absurd H (by simp)
    · rw [if_neg c6] at H
      have c6b0 : (t275 == 0) = false := beq_eq_false_iff_ne.mpr c6
      have c6b1 : (t275 != 0) = true := bne_iff_ne.mpr c6
      simp only [Option.some.injEq, Prod.mk.injEq] at H
      obtain ⟨rfl, rfl⟩ := H
      go_enter Try.func45, Try.ntmps45
      go_wp2_with (first | ((with_reducible refine gate_callee (f := 34) rfl ?_); refine goesL_ (some 14) rfl rfl Try.func34 (by kernel_rfl) rfl #[.slice A0 l0.length c0] rfl (by (try simp only [List.map_toArray, List.map_cons, List.map_nil]); first | done | rfl | (simp only [List.length_drop, List.length_take]; rfl)) ?_; (with_reducible refine (moraineref04_Decode.calls k _ _ l0 t268 t269 t270 _ ?side1 ?side2 A3.out).mono ?_); (case side1 => repeat (first | exact HR0.out | (with_reducible refine Kd.C_alloc ?_ _) | (with_reducible refine Kd.C_drewN ?_ _) | (with_reducible refine Kd.C_drew ?_))); (case side2 => exact HC0.out); rintro e w20 ⟨v271, rfl, ho0, hb⟩; refine ⟨_, rfl, ?_⟩; have n0_ := Aside0.mk (Kd.R_lower ho0 (below_size (by repeat (first | (with_reducible first | exact HB.out | apply below_alloc | apply pw_below_drewN | apply below_drew1) | exact HB.out)))); have n1_ := Aside0.mk (below_step (by repeat (first | (with_reducible first | exact HB.out | apply below_alloc | apply pw_below_drewN | apply below_drew1) | exact HB.out)) hb); clear HB; have HO272 := n0_; have HB := n1_; clear n0_ n1_; (try clear hb); (try clear hb2); (try clear hk); (try clear hi); (try clear ho0)) | ((with_reducible refine gate_callee (f := 34) rfl ?_); refine goesL_ (some 20) rfl rfl Try.func34 (by kernel_rfl) rfl #[.slice A1 l1.length c1] rfl (by (try simp only [List.map_toArray, List.map_cons, List.map_nil]); first | done | rfl | (simp only [List.length_drop, List.length_take]; rfl)) ?_; (with_reducible refine (moraineref04_Decode.calls k _ _ l1 t273 t274 t275 _ ?side1 ?side2 A4.out).mono ?_); (case side1 => repeat (first | exact (Kd.C_below HR1.out HB.out) | (with_reducible refine Kd.C_alloc ?_ _) | (with_reducible refine Kd.C_drewN ?_ _) | (with_reducible refine Kd.C_drew ?_))); (case side2 => exact HC1.out); rintro e w21 ⟨v276, rfl, ho0, hb⟩; refine ⟨_, rfl, ?_⟩; have n0_ := Aside0.mk (Kd.R_elder' (by (with_reducible repeat (first | apply Kd.R_alloc | apply Kd.R_drewN | apply Kd.R_drew)); exact HO272.out) (Kd.R_base ho0) hb); have n1_ := Aside0.mk (Kd.R_lower (Kd.R_new' ho0 (Kd.R_lt (by (with_reducible repeat (first | apply Kd.R_alloc | apply Kd.R_drewN | apply Kd.R_drew)); exact HO272.out))) (below_size (by repeat (first | (with_reducible first | exact HB.out | apply below_alloc | apply pw_below_drewN | apply below_drew1) | exact HB.out)))); have n2_ := Aside0.mk (below_step (by repeat (first | (with_reducible first | exact HB.out | apply below_alloc | apply pw_below_drewN | apply below_drew1) | exact HB.out)) hb); clear HO272; clear HB; have HO272 := n0_; have HO277 := n1_; have HB := n2_; clear n0_ n1_ n2_; (try clear hb); (try clear hb2); (try clear hk); (try clear hi); (try clear ho0)))
      go_ret2
      exact ⟨_, by first | rfl | (simp [errW_none, errW_some] <;> rfl) | (simp [*, errW_none, errW_some] <;> rfl), by first | exact Kd.R_nil _ _ _ _ _ | exact Kd.N_nil _ _ _ _ _ | exact Kd.V_nil _ _ _ _ _ | exact Kd.Q_nil _ _ _ _ _ | exact Kd.S_nil _ _ _ _ _, by repeat (first | (with_reducible first | exact HB.out | apply below_alloc | apply pw_below_drewN | apply below_drew1) | exact HB.out)⟩
  · rw [if_neg c5] at H
    have c5b0 : (t270 == 0) = false := beq_eq_false_iff_ne.mpr c5
    have c5b1 : (t270 != 0) = true := bne_iff_ne.mpr c5
    simp only [Option.some.injEq, Prod.mk.injEq] at H
    obtain ⟨rfl, rfl⟩ := H
    go_enter Try.func45, Try.ntmps45
    go_wp2_with (first | ((with_reducible refine gate_callee (f := 34) rfl ?_); refine goesL_ (some 14) rfl rfl Try.func34 (by kernel_rfl) rfl #[.slice A0 l0.length c0] rfl (by (try simp only [List.map_toArray, List.map_cons, List.map_nil]); first | done | rfl | (simp only [List.length_drop, List.length_take]; rfl)) ?_; (with_reducible refine (moraineref04_Decode.calls k _ _ l0 t268 t269 t270 _ ?side1 ?side2 A3.out).mono ?_); (case side1 => repeat (first | exact HR0.out | (with_reducible refine Kd.C_alloc ?_ _) | (with_reducible refine Kd.C_drewN ?_ _) | (with_reducible refine Kd.C_drew ?_))); (case side2 => exact HC0.out); rintro e w22 ⟨v271, rfl, ho0, hb⟩; refine ⟨_, rfl, ?_⟩; have n0_ := Aside0.mk (Kd.R_lower ho0 (below_size (by repeat (first | (with_reducible first | exact HB.out | apply below_alloc | apply pw_below_drewN | apply below_drew1) | exact HB.out)))); have n1_ := Aside0.mk (below_step (by repeat (first | (with_reducible first | exact HB.out | apply below_alloc | apply pw_below_drewN | apply below_drew1) | exact HB.out)) hb); clear HB; have HO272 := n0_; have HB := n1_; clear n0_ n1_; (try clear hb); (try clear hb2); (try clear hk); (try clear hi); (try clear ho0)) | ((with_reducible refine gate_callee (f := 34) rfl ?_); refine goesL_ (some 20) rfl rfl Try.func34 (by kernel_rfl) rfl #[.slice A1 l1.length c1] rfl (by (try simp only [List.map_toArray, List.map_cons, List.map_nil]); first | done | rfl | (simp only [List.length_drop, List.length_take]; rfl)) ?_; (with_reducible refine (moraineref04_Decode.calls k _ _ l1 t273 t274 t275 _ ?side1 ?side2 A4.out).mono ?_); (case side1 => repeat (first | exact (Kd.C_below HR1.out HB.out) | (with_reducible refine Kd.C_alloc ?_ _) | (with_reducible refine Kd.C_drewN ?_ _) | (with_reducible refine Kd.C_drew ?_))); (case side2 => exact HC1.out); rintro e w23 ⟨v276, rfl, ho0, hb⟩; refine ⟨_, rfl, ?_⟩; have n0_ := Aside0.mk (Kd.R_elder' (by (with_reducible repeat (first | apply Kd.R_alloc | apply Kd.R_drewN | apply Kd.R_drew)); exact HO272.out) (Kd.R_base ho0) hb); have n1_ := Aside0.mk (Kd.R_lower (Kd.R_new' ho0 (Kd.R_lt (by (with_reducible repeat (first | apply Kd.R_alloc | apply Kd.R_drewN | apply Kd.R_drew)); exact HO272.out))) (below_size (by repeat (first | (with_reducible first | exact HB.out | apply below_alloc | apply pw_below_drewN | apply below_drew1) | exact HB.out)))); have n2_ := Aside0.mk (below_step (by repeat (first | (with_reducible first | exact HB.out | apply below_alloc | apply pw_below_drewN | apply below_drew1) | exact HB.out)) hb); clear HO272; clear HB; have HO272 := n0_; have HO277 := n1_; have HB := n2_; clear n0_ n1_ n2_; (try clear hb); (try clear hb2); (try clear hk); (try clear hi); (try clear ho0)))
    go_ret2
    exact ⟨_, by first | rfl | (simp [errW_none, errW_some] <;> rfl) | (simp [*, errW_none, errW_some] <;> rfl), by first | exact Kd.R_nil _ _ _ _ _ | exact Kd.N_nil _ _ _ _ _ | exact Kd.V_nil _ _ _ _ _ | exact Kd.Q_nil _ _ _ _ _ | exact Kd.S_nil _ _ _ _ _, by repeat (first | (with_reducible first | exact HB.out | apply below_alloc | apply pw_below_drewN | apply below_drew1) | exact HB.out)⟩

end Go.Proofs.Ythkooncibfkepaa.G

/- Contracts typed by hand: plain laws of reading a batch: the reference reads as the program does -/
namespace Go.Proofs.Ythkooncibfkepaa.G
open Go.RowKit Go.Proofs.YthkooncibfkepaaW.PrintWords Go.Proofs.YthkooncibfkepaaW.PrintLast Go.Proofs.YthkooncibfkepaaW.PrintMore
attribute [local go_sem] max2_int min2_int max_two min_two max_three min_three max_four min_four
set_option linter.unusedVariables false
set_option linter.unusedSimpArgs false

/-! plain laws of reading a batch: the reference reads as the program does -/
theorem i64_or_small (a b : Nat) (ha : a < 4294967296) (hb : b < 4294967296) : bits .or .i64 (a : Int) (b : Int) = ((a ||| b : Nat) : Int) := by
  have hx : a ||| b < 2 ^ 32 := Nat.or_lt_two_pow (by omega) (by omega)
  show IntKind.i64.wrap ((BitVec.ofInt 64 (a : Int) ||| BitVec.ofInt 64 (b : Int)).toNat : Int) = _
  rw [BitVec.toNat_or, ofInt_u64 a (by omega), ofInt_u64 b (by omega)]
  exact Lib.wrap_i64_small _ (by omega)
theorem group28 {v c : Int} {j : Nat} (h : Fits v j) (hj : j ≤ 3) (c0 : 0 ≤ c) (c1 : c < 128) :
    bits .or .i64 v (shl .i64 c ((7 * j : Nat) : Int)) = up v c j ∧ Fits (up v c j) (j + 1) ∧ 0 ≤ up v c j ∧ up v c j < 268435456 := by
  have hg := group7 h (by omega) c0 c1
  have hf := hg.2.2.1
  have hp : (2 : Int) ^ (7 * (j + 1)) ≤ 268435456 := by
    have h1 : (2 : Nat) ^ (7 * (j + 1)) ≤ 2 ^ 28 := Nat.pow_le_pow_right (by decide) (by omega)
    have h2 : (2 : Nat) ^ 28 = 268435456 := by decide
    have h3 : (((2 : Nat) ^ (7 * (j + 1)) : Nat) : Int) = (2 : Int) ^ (7 * (j + 1)) := by rw [Int.natCast_pow]; rfl
    omega
  refine ⟨?_, hf, hf.1, Int.lt_of_lt_of_le hf.2 hp⟩
  have hlt := Int.lt_of_lt_of_le hf.2 hp
  unfold up at hlt ⊢
  obtain ⟨v, rfl⟩ := Int.eq_ofNat_of_zero_le h.1
  obtain ⟨c, rfl⟩ := Int.eq_ofNat_of_zero_le c0
  have hv : v < 2 ^ (7 * j) := by exact_mod_cast h.2
  have e2 : ((c : Int) * 2 ^ (7 * j)) = ((2 ^ (7 * j) * c : Nat) : Int) := by rw [Int.natCast_mul, Int.natCast_pow, Int.mul_comm]; rfl
  rw [e2] at hlt ⊢
  have e4 : shl .i64 (c : Int) ((7 * j : Nat) : Int) = ((2 ^ (7 * j) * c : Nat) : Int) := by
    unfold shl
    rw [Int.toNat_natCast, Nat.min_eq_left (show 7 * j ≤ IntKind.i64.bits by simp [IntKind.bits]; omega), e2]
    exact Lib.wrap_i64_small _ (by omega)
  rw [e4, i64_or_small v _ (by omega) (by omega), Nat.or_comm, ← Nat.two_pow_add_eq_or_of_lt hv c]
  omega
/-- what the reference makes of a length that was read -/
def fin (l : List Int) (most : Int) (r : Int × Int × Int) : ByteArray × Int :=
  if r.2.2 = 0 then (if r.1 > most then (⟨#[]⟩, -1) else if r.1 > (l.length : Int) - r.2.1 then (⟨#[]⟩, -1) else (strOfNums ((l.take (r.2.1 + r.1).toNat).drop r.2.1.toNat), r.2.1 + r.1)) else (⟨#[]⟩, -1)
theorem fin_eq (l : List Int) (most n w : Int) (hn0 : 0 ≤ n) (hn1 : n ≤ l.length) (hw0 : 0 ≤ w) (hw1 : w < 268435456) (hl : l.length ≤ 1099511627776) :
    (if w > most then (some ((⟨#[]⟩ : ByteArray), (-1 : Int))) else (if w > (wrap64 ((l.length : Int) - n)) then (some ((⟨#[]⟩ : ByteArray), (-1))) else (if 0 ≤ n then (if n ≤ (wrap64 (n + w)) then (if (wrap64 (n + w)) ≤ (l.length : Int) then (some (strOfNums ((l.take ((wrap64 (n + w)) : Int).toNat).drop (n : Int).toNat), wrap64 (n + w))) else (none)) else (none)) else (none)))) = some (fin l most (w, n, 0)) := by
  have e1 : wrap64 ((l.length : Int) - n) = (l.length : Int) - n := by unfold wrap64; omega
  have e2 : wrap64 (n + w) = n + w := by unfold wrap64; omega
  unfold fin
  rw [e1, e2]
  simp only [if_true]
  by_cases h1 : w > most
  · rw [if_pos h1, if_pos h1]
  · rw [if_neg h1, if_neg h1]
    by_cases h2 : w > (l.length : Int) - n
    · rw [if_pos h2, if_pos h2]
    · rw [if_neg h2, if_neg h2, if_pos hn0, if_pos (by omega), if_pos (by omega)]
theorem go_big (p : Int) (cs : List Int) (v w n e most : Int) (l : List Int) (hv : Fits v 4) (hb : Bytes cs) (hm : most < 268435456) (h : codec_Varint.go p cs 4 v = (w, n, e)) : fin l most (w, n, e) = (⟨#[]⟩, -1) := by
  unfold fin
  by_cases he : e = 0
  · subst he
    obtain ⟨u, u0, u1, hw, _⟩ := go_was p cs 4 v w n (by omega) hv hb h
    have : (1 : Int) ≤ u := by rcases u1 with h | h; omega; exact h
    have hv0 := hv.1
    have hbig : w > most := by
      rw [hw]
      unfold up
      rw [show (2 : Int) ^ (7 * 4) = 268435456 by decide]
      omega
    simp only [if_true]
    rw [if_pos hbig]
  · simp only []
    rw [if_neg he]
theorem refread_go (l : List Int) (p most : Int) (h0 : 0 ≤ p) (hb : Bytes l) (hl : l.length ≤ 1099511627776) (hm1 : most < 268435456) : ∀ (d k j : Nat) (v : Int), j + d = 4 → p + j ≤ l.length → Fits v j → 2 * d + 2 ≤ k →
    moraineref04_read.l0 k l (p + j) most v ((7 * j : Nat) : Int) = some (fin l most (codec_Varint.go p (l.drop (p.toNat + j)) j v)) := by
  intro d
  induction d with
  | zero =>
    intro k j v hj hp hv hk
    obtain ⟨k, rfl⟩ : ∃ m, k = m + 2 := ⟨k - 2, by omega⟩
    obtain rfl : j = 4 := by omega
    obtain ⟨⟨w, n, e⟩, hr⟩ : ∃ r, codec_Varint.go p (l.drop (p.toNat + 4)) 4 v = r := ⟨_, rfl⟩
    rw [hr, go_big p _ v w n e most l hv (hb.drop _) hm1 hr]
    simp only [moraineref04_read.l0]
    have hd : decide (((7 * 4 : Nat) : Int) > 21) = true := by decide
    rw [hd]
    split <;> simp only [moraineref04_read.j1, if_true]
  | succ d ih =>
    intro k j v hj hp hv hk
    obtain ⟨k, rfl⟩ : ∃ m, k = m + 2 := ⟨k - 2, by omega⟩
    by_cases he : p + j = (l.length : Int)
    · have hn : l.drop (p.toNat + j) = [] := List.drop_eq_nil_of_le (by omega)
      rw [hn]
      simp only [moraineref04_read.l0, codec_Varint.go]
      rw [if_pos (by omega)]
      simp only [moraineref04_read.j1, if_true]
      rfl
    · have hlt : p + (j : Int) < l.length := by omega
      have hc := rd_byte hb (p + j) (by omega) hlt
      have hm : Int.tmod (rd l (p + j)) 128 = rd l (p + j) % 128 := Int.tmod_eq_emod_of_nonneg hc.1
      have hd : decide (((7 * j : Nat) : Int) > 21) = false := decide_eq_false (by omega)
      have ew : wrap64 (rd l (p + j)) = rd l (p + j) := by unfold wrap64; omega
      have e1 : wrap64 (p + (j : Int) + 1) = p + ((j + 1 : Nat) : Int) := by unfold wrap64; omega
      have e7 : wrap64 (((7 * j : Nat) : Int) + 7) = ((7 * (j + 1) : Nat) : Int) := by unfold wrap64; omega
      rw [drop_at l p j h0 hlt]
      simp only [moraineref04_read.l0]
      rw [if_neg (by omega), hd]
      simp only [moraineref04_read.j1]
      rw [if_neg (by decide), if_pos (by omega), if_pos hlt, if_pos (by omega), ew, e1, e7, hm]
      generalize rd l (p + j) = c at *
      have hg := group28 (c := c % 128) hv (by omega) (by omega) (by omega)
      rw [hg.1]
      have hfin := fun w (h1 : 0 ≤ w) h2 => fin_eq l most (p + ((j + 1 : Nat) : Int)) w (by omega) (by omega) h1 h2 hl
      rw [hfin _ hg.2.2.1 hg.2.2.2]
      simp only [codec_Varint.go]
      rw [if_neg (show ¬ (j = 9 ∧ 1 < c) from fun q => by omega)]
      by_cases h128 : c < 128
      · have hmod : c % 128 = c := by omega
        have hu := (group7 hv (by omega) hc.1 h128).1
        rw [if_pos h128, hmod]
        by_cases hz : c = 0
        · rw [if_pos hz]
          by_cases hj0 : 0 < j
          · rw [if_pos (show ((7 * j : Nat) : Int) > 0 by omega), if_pos (show c = 0 ∧ 0 < j from ⟨hz, hj0⟩)]
            rfl
          · rw [if_neg (show ¬ ((7 * j : Nat) : Int) > 0 by omega), if_neg (show ¬ (c = 0 ∧ 0 < j) from fun q => hj0 q.2), if_pos h128, hu, show p + ((j + 1 : Nat) : Int) = p + (j : Int) + 1 by omega]
        · rw [if_neg hz, if_neg (show ¬ (c = 0 ∧ 0 < j) from fun q => hz q.1), if_pos h128, hu, show p + ((j + 1 : Nat) : Int) = p + (j : Int) + 1 by omega]
      · rw [if_neg h128, if_neg (show ¬ (c = 0 ∧ 0 < j) from fun q => h128 (by omega)), if_neg h128, and127 c hc.1 hc.2, (group7 (c := c % 128) hv (by omega) (by omega) (by omega)).1]
        exact ih k (j + 1) (up v (c % 128) j) (by omega) (by omega) hg.2.1 (by omega)
theorem refread_eq (l : List Int) (p most : Int) (k : Nat) (h0 : 0 ≤ p) (hp : p ≤ l.length) (hb : Bytes l) (hl : l.length ≤ 1099511627776) (hm1 : most < 268435456) (hk : 10 ≤ k) :
    moraineref04_read.f k l p most = some (if (txt l p).2.2 = 0 ∧ ((txt l p).1.size : Int) ≤ most then ((txt l p).1, (txt l p).2.1) else (⟨#[]⟩, -1)) := by
  have h := refread_go l p most h0 hb hl hm1 4 k 0 0 rfl (by omega) fits0 (by omega)
  have e0 : p + ((0 : Nat) : Int) = p := by omega
  rw [e0] at h
  unfold moraineref04_read.f
  rw [show ((7 * 0 : Nat) : Int) = 0 from rfl] at h
  refine h.trans ?_
  congr 1
  have ht := (txt_eq l p hb hl).1
  obtain ⟨v, n, e, hv, hh⟩ := varint_some l p hb (by omega)
  have hgo : codec_Varint.go p (l.drop (p.toNat + 0)) 0 0 = (v, n, e) := by
    have := hv
    unfold codec_Varint.f at this
    rw [if_neg (by omega), if_neg (by omega), if_pos (by omega)] at this
    exact Option.some.inj this
  rw [hgo]
  unfold codec_Text.f at ht
  rw [hv, Option.bind_some] at ht
  unfold fin
  rcases hh with ⟨rfl, v0, v1, p0, n0, n1⟩ | ⟨he, _, _, rfl, rfl⟩
  · simp only [if_true] at ht ⊢
    rw [if_pos v0, if_pos (by omega), if_pos n1, if_pos (by omega)] at ht
    by_cases h2 : v > (l.length : Int) - n
    · rw [if_pos h2] at ht
      have ht2 := Option.some.inj ht
      rw [← ht2]
      rw [if_neg (show ¬ ((10 : Int) = 0 ∧ _) from fun q => by omega)]
      by_cases h3 : v > most
      · rw [if_pos h3]
      · rw [if_neg h3, if_pos h2]
    · rw [if_neg h2] at ht
      have ht2 := Option.some.inj ht
      rw [← ht2]
      have hz : ((strOfNums ((l.take (n + v).toNat).drop n.toNat)).size : Int) = v := by
        rw [nums_size, List.length_drop, List.length_take]
        omega
      simp only [hz]
      by_cases h3 : v > most
      · rw [if_pos h3, if_neg (fun q => by omega)]
      · rw [if_neg h3, if_neg h2, if_pos ⟨trivial, by omega⟩]
  · simp only [] at ht ⊢
    rw [if_neg he] at ht ⊢
    have ht2 := Option.some.inj ht
    rw [← ht2]
    rw [if_neg (fun q => he q.1)]
theorem may_long1 (x : Op04) (h : (x.f1.size : Int) > 1024) : mayB x = false := by
  unfold mayB
  rw [if_neg (by omega), if_pos h]
theorem may_long2 (x : Op04) (h : (x.f2.size : Int) > 65536) (h0 : x.f0 ≠ 0) : mayB x = false := by
  unfold mayB
  by_cases h1 : (x.f1.size : Int) < 1
  · rw [if_pos h1]
  · rw [if_neg h1]
    by_cases h2 : (x.f1.size : Int) > 1024
    · rw [if_pos h2]
    · rw [if_neg h2, if_neg h0]
      by_cases h3 : x.f0 = 1
      · rw [if_pos h3]; exact decide_eq_false (by omega)
      · rw [if_neg h3]
        by_cases h4 : x.f0 = 2
        · rw [if_pos h4, if_neg (by omega)]
        · rw [if_neg h4]
theorem May_eq_any (k : Nat) (x : Op04) (hk : 1 ≤ k) : moraineref04_May.f k x.f0 x.f1 x.f2 = some (mayB x) := by
  obtain ⟨m, rfl⟩ : ∃ m, k = m + 1 := ⟨k - 1, by omega⟩
  exact May_eq m x
/-- what the reference's op answers -/
def opR (l : List Int) (p : Int) : Int × ByteArray × ByteArray × Int := if (rdR l p).2.2 = true then ((rdR l p).1.f0, (rdR l p).1.f1, (rdR l p).1.f2, (rdR l p).2.1) else (0, ⟨#[]⟩, ⟨#[]⟩, -1)
theorem refop_eq (l : List Int) (p : Int) (k : Nat) (h0 : 0 ≤ p) (hb : Bytes l) (hl : l.length ≤ 1099511627776) (hk : 11 ≤ k) : moraineref04_op.f k l p = some (opR l p) := by
  unfold moraineref04_op.f opR
  by_cases c1 : p ≥ (l.length : Int)
  · have er : (rdR l p).2.2 = false := by unfold rdR; rw [if_pos c1]
    rw [if_pos c1, er, if_neg (by decide)]
  · have ew : wrap64 (p + 1) = p + 1 := by unfold wrap64; omega
    have hc := rd_byte hb p h0 (by omega)
    have ec : wrap64 (rd l p) = rd l p := by unfold wrap64; omega
    rw [if_neg c1, if_pos h0, if_pos (by omega), ew, ec, refread_eq l (p + 1) 1024 k (by omega) (by omega) hb hl (by omega) (by omega), Option.bind_some]
    obtain ⟨k, rfl⟩ : ∃ m, k = m + 1 := ⟨k - 1, by omega⟩
    have ht := (txt_eq l (p + 1) hb hl).2
    obtain ⟨s1, n1, z1, e1⟩ : ∃ s n z, txt l (p + 1) = (s, n, z) := ⟨_, _, _, rfl⟩
    have er : rdR l p = (if z1 ≠ 0 then (⟨0, ⟨#[]⟩, ⟨#[]⟩⟩, 0, false) else if rd l p = 0 then (⟨0, s1, ⟨#[]⟩⟩, n1, mayB ⟨0, s1, ⟨#[]⟩⟩)
        else if (txt l n1).2.2 ≠ 0 then (⟨rd l p, s1, (txt l n1).1⟩, (txt l n1).2.1, false) else (⟨rd l p, s1, (txt l n1).1⟩, (txt l n1).2.1, mayB ⟨rd l p, s1, (txt l n1).1⟩)) := by
      unfold rdR; rw [if_neg c1, e1]
    rw [e1] at ht ⊢
    simp only [] at ht
    by_cases c2 : z1 = 0
    · rw [if_neg (by omega)] at er
      have hn1 : 0 ≤ n1 ∧ n1 ≤ l.length := by rcases ht with h | h; exact ⟨by omega, by omega⟩; exact absurd c2 h.1
      by_cases c3 : (s1.size : Int) ≤ 1024
      · rw [if_pos (show z1 = 0 ∧ (s1.size : Int) ≤ 1024 from ⟨c2, c3⟩)]
        dsimp only []
        rw [if_pos (show n1 ≥ 0 by omega)]
        simp only [moraineref04_op.j0]
        by_cases c4 : rd l p = 0
        · rw [if_pos c4] at er
          rw [c4, if_neg (by decide), if_neg (by omega), May_eq_any k ⟨0, s1, ⟨#[]⟩⟩ (by omega), Option.bind_some, er]
          by_cases c5 : mayB ⟨0, s1, ⟨#[]⟩⟩ = true
          · rw [if_pos c5, if_pos c5]
          · rw [if_neg c5, if_neg c5]
        · rw [if_neg c4] at er
          rw [if_pos (by simpa using c4), refread_eq l n1 65536 k hn1.1 hn1.2 hb hl (by omega) (by omega), Option.bind_some]
          have ht2 := (txt_eq l n1 hb hl).2
          obtain ⟨s2, n2, z2, e2⟩ : ∃ s n z, txt l n1 = (s, n, z) := ⟨_, _, _, rfl⟩
          rw [e2] at ht2 er ⊢
          simp only [] at ht2 er
          by_cases c6 : z2 = 0
          · rw [if_neg (by omega)] at er
            have hn2 : 0 ≤ n2 := by rcases ht2 with h | h; omega; exact absurd c6 h.1
            by_cases c7 : (s2.size : Int) ≤ 65536
            · rw [if_pos (show z2 = 0 ∧ (s2.size : Int) ≤ 65536 from ⟨c6, c7⟩)]
              dsimp only []
              rw [if_neg (by omega), May_eq_any k ⟨rd l p, s1, s2⟩ (by omega), Option.bind_some, er]
              by_cases c5 : mayB ⟨rd l p, s1, s2⟩ = true
              · rw [if_pos c5, if_pos c5]
              · rw [if_neg c5, if_neg c5]
            · rw [if_neg (show ¬ (z2 = 0 ∧ (s2.size : Int) ≤ 65536) from fun q => c7 q.2)]
              dsimp only []
              rw [if_pos (by omega), er, if_neg (by simp [may_long2 ⟨rd l p, s1, s2⟩ (by simp only []; omega) c4])]
          · rw [if_pos (by omega)] at er
            rw [if_neg (show ¬ (z2 = 0 ∧ (s2.size : Int) ≤ 65536) from fun q => c6 q.1)]
            dsimp only []
            rw [if_pos (by omega), er, if_neg (by simp)]
      · rw [if_neg (show ¬ (z1 = 0 ∧ (s1.size : Int) ≤ 1024) from fun q => c3 q.2)]
        dsimp only []
        rw [if_neg (by omega)]
        simp only [moraineref04_op.j0]
        rw [if_neg (by decide), if_pos (by omega), er]
        have hm := fun c s => may_long1 ⟨c, s1, s⟩ (by simp only []; omega)
        rw [if_neg]
        split
        · simp [hm]
        · split
          · simp
          · simp [hm]
    · rw [if_pos (by omega)] at er
      rw [if_neg (show ¬ (z1 = 0 ∧ (s1.size : Int) ≤ 1024) from fun q => c2 q.1)]
      dsimp only []
      rw [if_neg (by omega)]
      simp only [moraineref04_op.j0]
      rw [if_neg (by decide), if_pos (by omega), er, if_neg (by simp)]
theorem walked_loop (l : List Int) (seq s cnt : Int) (k0 : Nat) (hk0 : 11 ≤ k0) (hb : Bytes l) (hl : l.length ≤ 1048576) (hc : cnt < 4294967296) : ∀ (d i k : Nat) (p : Int) (acc : List Op04), 0 ≤ p → p ≤ l.length → (acc.length : Int) + d = cnt → k0 + (l.length - p.toNat) + 1 ≤ k →
    moraineref04_Walked.l0 k l seq cnt p acc = some (seq, acc ++ opsOf04 (gos l s d i p), endAt p (gos l s d i p)) := by
  intro d
  induction d with
  | zero =>
    intro i k p acc h0 hp ha hk
    obtain ⟨k, rfl⟩ : ∃ m, k = m + 1 := ⟨k - 1, by omega⟩
    simp only [moraineref04_Walked.l0]
    rw [if_neg (by omega)]
    simp [gos, opsOf04, endAt]
  | succ d ih =>
    intro i k p acc h0 hp ha hk
    obtain ⟨k, rfl⟩ : ∃ m, k = m + 1 := ⟨k - 1, by omega⟩
    simp only [moraineref04_Walked.l0]
    rw [if_pos (by omega), refop_eq l p k h0 hb (by omega) (by omega), Option.bind_some]
    unfold opR gos
    by_cases hr : (rdR l p).2.2 = true
    · have hn := rdR_next l hb (by omega) p hr
      rw [if_pos hr, if_pos hr]
      simp only []
      rw [if_neg (by omega), if_pos (by omega)]
      rw [ih (i + 1) k (rdR l p).2.1 (acc ++ [(rdR l p).1]) hn.1 hn.2.2 (by rw [List.length_append]; simp only [List.length_cons, List.length_nil]; omega) (by omega), endAt_cons]
      simp only [opsOf04, List.map_cons, List.append_assoc, List.cons_append, List.nil_append]
    · rw [if_neg hr, if_neg hr]
      simp only []
      rw [if_pos (by omega)]
      simp [opsOf04, endAt]
theorem or_byte8 (v b : Int) (v0 : 0 ≤ v) (v1 : v < 72057594037927936) (b0 : 0 ≤ b) (b1 : b ≤ 255) : bits .or .u64 (IntKind.u64.wrap (v * 256)) (IntKind.u64.wrap b) = b + 256 * v := by
  obtain ⟨v, rfl⟩ := Int.eq_ofNat_of_zero_le v0
  obtain ⟨b, rfl⟩ := Int.eq_ofNat_of_zero_le b0
  have e1 : IntKind.u64.wrap ((v : Int) * 256) = ((2 ^ 8 * v : Nat) : Int) := by rw [Go.IntKind.wrap_u64]; omega
  have e2 : IntKind.u64.wrap (b : Int) = (b : Int) := by rw [Go.IntKind.wrap_u64]; omega
  rw [e1, e2, u64_or_nat _ b (by omega) (by omega), ← Nat.two_pow_add_eq_or_of_lt (show b < 2 ^ 8 by omega) v]
  omega
theorem number_loop (l : List Int) (p n : Nat) (hb : Bytes l) (hn : n ≤ 8) (hp : p + n ≤ l.length) (hl : l.length ≤ 1099511627776) : ∀ (m k : Nat) (v : Int), m ≤ n → v = le (seg l (p + m) (n - m)) → m + 1 ≤ k →
    moraineref04_number.l0 k l (p : Int) v ((m : Int) - 1) = some (le (seg l p n)) := by
  intro m
  induction m with
  | zero =>
    intro k v hm hv hk
    obtain ⟨k, rfl⟩ : ∃ m, k = m + 1 := ⟨k - 1, by omega⟩
    simp only [moraineref04_number.l0]
    rw [if_neg (by omega), hv]
    rfl
  | succ m ih =>
    intro k v hm hv hk
    obtain ⟨k, rfl⟩ : ∃ m, k = m + 1 := ⟨k - 1, by omega⟩
    have ei : wrap64 ((p : Int) + (((m + 1 : Nat) : Int) - 1)) = ((p + m : Nat) : Int) := by unfold wrap64; omega
    have ed : wrap64 ((((m + 1 : Nat) : Int) - 1) - 1) = (m : Int) - 1 := by unfold wrap64; omega
    have hc := rd_byte hb ((p + m : Nat) : Int) (by omega) (by omega)
    have hr := le_range (seg l (p + (m + 1)) (n - (m + 1))) (seg_bytes hb _ _)
    have hsl := seg_len l (p + (m + 1)) (n - (m + 1)) (by omega)
    have hv1 : v < 72057594037927936 := by
      have h1 : (2 : Nat) ^ (8 * (n - (m + 1))) ≤ 2 ^ 56 := Nat.pow_le_pow_right (by decide) (by omega)
      have h2 : (2 : Nat) ^ 56 = 72057594037927936 := by decide
      have h3 : (((2 : Nat) ^ (8 * (n - (m + 1))) : Nat) : Int) = (2 : Int) ^ (8 * (n - (m + 1))) := by rw [Int.natCast_pow]; rfl
      rw [hsl] at hr
      omega
    simp only [moraineref04_number.l0]
    rw [if_pos (by omega), ei, if_pos (by omega), if_pos (by omega), ed, or_byte8 v _ (by omega) hv1 hc.1 hc.2]
    refine ih k _ (by omega) ?_ (by omega)
    rw [show n - m = (n - (m + 1)) + 1 by omega, seg_cons l (p + m) _ (by omega)]
    simp only [le]
    rw [hv]
    rfl
theorem refnumber_eq (l : List Int) (p n k : Nat) (hb : Bytes l) (hn : n ≤ 8) (hn0 : 1 ≤ n) (hp : p + n ≤ l.length) (hl : l.length ≤ 1099511627776) (hk : 10 ≤ k) : moraineref04_number.f k l (p : Int) (n : Int) = some (le (seg l p n)) := by
  unfold moraineref04_number.f
  rw [show wrap64 ((n : Int) - 1) = (n : Int) - 1 by unfold wrap64; omega]
  refine number_loop l p n hb hn hp hl n k 0 (Nat.le_refl _) ?_ (by omega)
  rw [Nat.sub_self]
  rfl
theorem refwalked_eq (l : List Int) (k : Nat) (hb : Bytes l) (hl : l.length ≤ 1048576) (hk : 12 + l.length ≤ k) :
    moraineref04_Walked.f k l = some (if l.length < 12 then (0, [], 0) else (le (seg l 0 8), opsOf04 (goneL l), endAt 12 (goneL l))) := by
  unfold moraineref04_Walked.f
  by_cases h12 : l.length < 12
  · rw [if_pos (by omega), if_pos h12]
  · rw [if_neg (by omega), if_neg h12]
    have e8 := refnumber_eq l 0 8 k hb (by omega) (by omega) (by omega) (by omega) (by omega)
    have e4 := refnumber_eq l 8 4 k hb (by omega) (by omega) (by omega) (by omega) (by omega)
    have h4 := seg4_small l hb
    have e8' : moraineref04_number.f k l 0 8 = some (le (seg l 0 8)) := e8
    have e4' : moraineref04_number.f k l 8 4 = some (le (seg l 8 4)) := e4
    have ew : wrap64 (le (seg l 8 4)) = le (seg l 8 4) := by unfold wrap64; omega
    rw [e8', Option.bind_some, e4', Option.bind_some, ew]
    rw [walked_loop l (le (seg l 0 8)) (le (seg l 0 8)) (le (seg l 8 4)) 11 (by omega) hb hl h4.2 (le (seg l 8 4)).toNat 0 k 12 [] (by omega) (by omega) (by simp only [List.length_nil]; omega) (by simp only [Int.reduceToNat]; omega)]
    unfold goneL
    rw [if_neg h12]
    rfl
theorem refdecode_eq (l : List Int) (k : Nat) (hb : Bytes l) (hl : l.length ≤ 1048576) (hk : 12 + l.length ≤ k) : moraineref04_Decode.f k l = some (decB l) := by
  unfold moraineref04_Decode.f decB
  rw [if_neg (by omega), refwalked_eq l k hb hl hk, Option.bind_some]
  by_cases h12 : l.length < 12
  · rw [if_pos h12, if_pos h12]
    simp only []
    rw [if_pos (by decide)]
  · rw [if_neg h12, if_neg h12]
    simp only []
    have hG : goneL l = gos l (le (seg l 0 8)) (le (seg l 8 4)).toNat 0 12 := by unfold goneL; rw [if_neg h12]
    obtain ⟨a, c, e, la, ka, hm⟩ := gos_at l (le (seg l 0 8)) hb (by omega) (le (seg l 8 4)).toNat 0 12 (by omega) (by omega)
    rw [← hG] at e ka hm
    have h4 := seg4_small l hb
    have h8 := seg8_small l hb
    have e4 : moraineref04_number.f k l 8 4 = some (le (seg l 8 4)) := refnumber_eq l 8 4 k hb (by omega) (by omega) (by omega) (by omega) (by omega)
    have ew : wrap64 (le (seg l 8 4)) = le (seg l 8 4) := by unfold wrap64; omega
    have hol := opsOf_len (goneL l)
    rw [lastEnd_eq, ka, encOps_len]
    have hgl := goneL_len l hb (by omega)
    rw [if_neg (by omega)]
    by_cases c1 : 12 + ((totN (opsOf04 (goneL l)) : Nat) : Int) = (l.length : Int)
    · rw [if_pos c1, e4, Option.bind_some, ew]
      by_cases c2 : le (seg l 8 4) = ((opsOf04 (goneL l)).length : Int)
      · rw [if_pos c2]
        by_cases c3 : ((opsOf04 (goneL l)).length : Int) > 4096
        · rw [if_pos c3, if_neg]
          intro q
          have := (chk_ok q.1).2.1
          omega
        · rw [if_neg c3, Fit_eq _ _ h8.1 (by omega), Option.bind_some]
          have hcn : (le (seg l 8 4)).toNat = (opsOf04 (goneL l)).length := by omega
          have hck := chk_of (l := opsOf04 (goneL l)) (by omega) hm (by omega)
          rw [hcn]
          by_cases c4 : fitB (le (seg l 0 8)) (opsOf04 (goneL l)).length = true
          · rw [if_pos c4, if_pos ⟨by rw [hck], by omega, c1, c4⟩]
          · rw [if_neg c4, if_neg (fun q => c4 q.2.2.2)]
      · rw [if_neg c2, if_neg]
        intro q
        exact c2 (by rw [hol]; exact q.2.1.symm)
    · rw [if_neg c1, if_neg (fun q => c1 q.2.2.1)]
/-- what Renumber answers, what Join answers -/
def renR (b : List Int) (seq : Int) : List Int × Int := if (decB b).2.2 = 0 then encR seq (decB b).2.1 else ([], 41)
def joinR (a b : List Int) : List Int × Int := if (decB a).2.2 = 0 then (if (decB b).2.2 = 0 then encR (decB a).1 ((decB a).2.1 ++ (decB b).2.1) else ([], 41)) else ([], 41)
theorem decB_err (b : List Int) (h : ¬ (decB b).2.2 = 0) : (decB b).2.2 = 41 := by rw [decB_bad b h]
theorem decB_len (b : List Int) (hb : Bytes b) (hl : b.length ≤ 1048576) : (decB b).2.1.length ≤ b.length ∧ ∀ x ∈ (decB b).2.1, x.f1.size ≤ 1048576 ∧ x.f2.size ≤ 1048576 := by
  have h := goneL_len b hb (by omega)
  have h2 := (sane_gone b hb hl).2
  unfold decB
  split
  · exact ⟨by simp, fun x hx => by cases hx⟩
  · split
    · exact ⟨by simp only []; rw [opsOf_len]; exact h, h2⟩
    · exact ⟨by simp, fun x hx => by cases hx⟩
theorem decB_seq' (b : List Int) (hb : Bytes b) : 0 ≤ (decB b).1 := by
  have h := (seg8_small b hb).1
  unfold decB
  split
  · exact Int.le_refl _
  · split
    · exact h
    · exact Int.le_refl _
theorem refrenumber_eq (b : List Int) (seq : Int) (k : Nat) (hb : Bytes b) (hl : b.length ≤ 1048576) (h0 : 0 ≤ seq) (hk : 13 + 2 * b.length ≤ k) : moraineref04_Renumber.f k b seq = some (renR b seq) := by
  have hs := decB_len b hb hl
  unfold moraineref04_Renumber.f renR
  rw [refdecode_eq b k hb hl (by omega), Option.bind_some]
  by_cases c : (decB b).2.2 = 0
  · rw [if_pos c, if_pos c, refencode_eq k seq _ h0 ⟨by omega, hs.2⟩ (by omega), Option.bind_some]
  · rw [if_neg c, if_neg c, decB_err b c]
theorem refjoin_eq (a b : List Int) (k : Nat) (ha : Bytes a) (hla : a.length ≤ 1048576) (hb : Bytes b) (hl : a.length + b.length ≤ 1048576) (hk : 13 + 2 * (a.length + b.length) ≤ k) : moraineref04_Join.f k a b = some (joinR a b) := by
  have hsa := decB_len a ha (by omega)
  have hsb := decB_len b hb (by omega)
  unfold moraineref04_Join.f joinR
  rw [refdecode_eq a k ha (by omega) (by omega), Option.bind_some, refdecode_eq b k hb (by omega) (by omega), Option.bind_some]
  by_cases c : (decB a).2.2 = 0
  · rw [if_pos c, if_pos c]
    by_cases d : (decB b).2.2 = 0
    · rw [if_pos d, if_pos d, Option.bind_some]
      rw [if_pos (by simp only [List.length_nil]; omega), Option.bind_some, List.nil_append, if_pos (by omega), refencode_eq k _ _ (decB_seq' a ha) ⟨by rw [List.length_append]; omega, fun x hx => (List.mem_append.1 hx).elim (hsa.2 x) (hsb.2 x)⟩ (by rw [List.length_append]; omega), Option.bind_some]
    · rw [if_neg d, if_neg d]
  · rw [if_neg c, if_neg c]
theorem refhead_eq (l : List Int) (k : Nat) (hb : Bytes l) (hl : l.length ≤ 1048576) (hk : 10 ≤ k) : moraineref04_Head.f k l = some (headR l) := by
  unfold moraineref04_Head.f headR
  by_cases h12 : l.length < 12
  · rw [if_pos (by omega), if_pos h12]
  · have h4 := seg4_small l hb
    have e8 : moraineref04_number.f k l 0 8 = some (le (seg l 0 8)) := refnumber_eq l 0 8 k hb (by omega) (by omega) (by omega) (by omega) (by omega)
    have e4 : moraineref04_number.f k l 8 4 = some (le (seg l 8 4)) := refnumber_eq l 8 4 k hb (by omega) (by omega) (by omega) (by omega) (by omega)
    have ew : wrap64 (le (seg l 8 4)) = le (seg l 8 4) := by unfold wrap64; omega
    rw [if_neg (by omega), if_neg h12, e8, Option.bind_some, e4, Option.bind_some, ew]

end Go.Proofs.Ythkooncibfkepaa.G

/- Contracts typed by hand: batch.Renumber, batch.Join, by hand -/
namespace Go.Proofs.Ythkooncibfkepaa.G
open Go.RowKit Go.Proofs.YthkooncibfkepaaW.PrintWords Go.Proofs.YthkooncibfkepaaW.PrintLast Go.Proofs.YthkooncibfkepaaW.PrintMore
attribute [local go_sem] max2_int min2_int max_two min_two max_three min_three max_four min_four
set_option linter.unusedVariables false
set_option linter.unusedSimpArgs false

/-! batch.Renumber, batch.Join, by hand -/
theorem Encode_calls' (k : Nat) (a0 : Int) (A1 : Option Addr) (c1 : Nat) (l1 : List Op04) (m : Nat) (hm : l1.length = m) (r1 : List Int) (r2 : Int) (w : World) (hr1 : Kd.C k65 w A1 l1.length l1) (hc1 : l1.length ≤ c1) (h : batch_Encode.f k a0 l1 = some (r1, r2)) :
    Calls Try.prog 21 #[.int .u64 a0, .slice A1 m c1] w fun e w' => ∃ v0_ : Value, e = .returned (.tuple #[v0_, .int .i64 r2]) ∧ Kd.R (Kd.int .u8) 5 w' w.heap.size (fun _ => True) v0_ r1 ∧ Below w.heap.size w w' := by
  subst hm
  exact batch_Encode.calls k a0 A1 c1 l1 r1 r2 w hr1 hc1 h
set_option maxHeartbeats 8000000 in
set_option maxRecDepth 100000 in
theorem batch_Renumber_calls (A : Option Addr) (c : Nat) (b : List Int) (seq : Int) (w : World) (hr0 : Kd.C (Kd.int .u8) w A b.length b) (hc : b.length ≤ c) (hb : Bytes b) (hlen : b.length ≤ 1048576) (h0 : 0 ≤ seq) :
    Calls Try.prog 42 #[.slice A b.length c, .int .u64 seq] w fun e w' => ∃ v0_ : Value, e = .returned (.tuple #[v0_, .int .i64 (renR b seq).2]) ∧ Kd.R (Kd.int .u8) 5 w' w.heap.size (fun _ => True) v0_ (renR b seq).1 ∧ Below w.heap.size w w' := by
  have HR := Aside0.mk hr0
  have HC := Aside0.mk hc
  have HBY := Aside0.mk hb
  have HL := Aside0.mk hlen
  have HS := Aside0.mk (decB_sane b hb hlen)
  by_cases hd : (decB b).2.2 = 0
  · have er : renR b seq = encR seq (decB b).2.1 := by unfold renR; rw [if_pos hd]
    have H3 := Aside0.mk (encode_eq (11 + (decB b).2.1.length) seq (decB b).2.1 h0 HS.out (Nat.le_refl _))
    have H33 := H3.out
    obtain ⟨⟨r, f⟩, hr⟩ : ∃ r, encR seq (decB b).2.1 = r := ⟨_, rfl⟩
    obtain ⟨⟨n, L, z⟩, hD⟩ : ∃ D, decB b = D := ⟨_, rfl⟩
    rw [er, hr]
    rw [hr, hD] at H33
    rw [hD] at hd
    dsimp only [] at H33 hd
    subst hd
    have HD := Aside0.mk hD
    have H3 := Aside0.mk H33
    clear er hr0 hc hb hlen H33 hr hD
    dsimp only []
    go_enter Try.func42, Try.ntmps42
    go_wp2_with fail
    (with_reducible refine (batch_Decode_calls' A c b _ _ HR.out HC.out HBY.out HL.out HD.out).mono ?_)
    rintro e w1 ⟨v1, rfl, ho, hb⟩
    have HW1 := Aside0.mk hb
    obtain ⟨A6, c6, rfl, hl6, hC6⟩ := Kd.R_reads ho
    have HC6 := Aside0.mk hC6
    have HL6 := Aside0.mk hl6
    clear hb ho hC6 hl6 HS
    go_wp2_with fail
    (with_reducible refine (batch_Encode.calls _ seq A6 c6 L _ _ _ HC6.out HL6.out H3.out).mono ?_)
    rintro e w2 ⟨v2, rfl, ho, hb⟩
    have HO := Aside0.mk (Kd.R_lower ho HW1.out.size)
    have HW2 := Aside0.mk (below_step HW1.out hb)
    clear ho hb
    go_wp2
    go_ret2
    exact ⟨v2, rfl, HO.out, HW2.out⟩
  · have er : renR b seq = ([], 41) := by unfold renR; rw [if_neg hd]
    have HD := Aside0.mk (decB_bad b hd)
    rw [er]
    clear er hr0 hc hb hlen HS hd
    go_enter Try.func42, Try.ntmps42
    go_wp2_with fail
    (with_reducible refine (batch_Decode_calls' A c b _ _ HR.out HC.out HBY.out HL.out HD.out).mono ?_)
    rintro e w1 ⟨v1, rfl, ho, hb⟩
    have HW1 := Aside0.mk hb
    clear hb ho
    go_wp2
    go_ret2
    exact ⟨.slice none 0 0, rfl, Kd.R_nil _ _ _ _ _, HW1.out⟩
set_option maxHeartbeats 8000000 in
set_option maxRecDepth 100000 in
theorem batch_Join_good (A : Option Addr) (c : Nat) (a : List Int) (B : Option Addr) (d : Nat) (b : List Int) (n : Int) (L : List Op04) (m : Int) (M : List Op04) (r : List Int) (f : Int) (w : World) (hra : Kd.C (Kd.int .u8) w A a.length a) (hc : a.length ≤ c) (hba : Bytes a) (hla : a.length ≤ 1048576) (hrb : Kd.C (Kd.int .u8) w B b.length b) (hd : b.length ≤ d) (hbb : Bytes b) (hlb : b.length ≤ 1048576)
    (ha : decB a = (n, L, 0)) (hb : decB b = (m, M, 0)) (hL : L.length ≤ 1048576) (hM : M.length ≤ 1048576) (h : batch_Encode.f (11 + (L ++ M).length) n (L ++ M) = some (r, f)) :
    Calls Try.prog 44 #[.slice A a.length c, .slice B b.length d] w fun e w' => ∃ v0_ : Value, e = .returned (.tuple #[v0_, .int .i64 f]) ∧ Kd.R (Kd.int .u8) 5 w' w.heap.size (fun _ => True) v0_ r ∧ Below w.heap.size w w' := by
  have HRA := Aside0.mk hra
  have HCA := Aside0.mk hc
  have HBA := Aside0.mk hba
  have HLA := Aside0.mk hla
  have HRB := Aside0.mk hrb
  have HCB := Aside0.mk hd
  have HBB := Aside0.mk hbb
  have HLB := Aside0.mk hlb
  have HDA := Aside0.mk ha
  have HDB := Aside0.mk hb
  have HLL := Aside0.mk hL
  have HMM := Aside0.mk hM
  have H := Aside0.mk h
  clear hra hc hba hla hrb hd hbb hlb ha hb hL hM h
  go_enter Try.func44, Try.ntmps44
  go_wp2_with fail
  (with_reducible refine (batch_Decode_calls' A c a _ _ HRA.out HCA.out HBA.out HLA.out HDA.out).mono ?_)
  rintro e w1 ⟨v1, rfl, ho, hb⟩
  have HO1 := Aside0.mk ho
  have HW1 := Aside0.mk hb
  clear ho hb
  go_wp2_with fail
  (with_reducible refine (batch_Decode_calls' B d b _ _ (Kd.C_below HRB.out HW1.out) HCB.out HBB.out HLB.out HDB.out).mono ?_)
  rintro e w2 ⟨v2, rfl, ho, hb⟩
  have HO1 := Aside0.mk (Kd.R_below HO1.out hb)
  have HW2 := Aside0.mk (below_step HW1.out hb)
  obtain ⟨A1, c1, rfl, hl1, hC1⟩ := Kd.R_reads HO1.out
  obtain ⟨A2, c2, rfl, hl2, hC2⟩ := Kd.R_reads ho
  have HC2 := Aside0.mk hC2
  have HI := Aside0.mk info65
  clear ho hb hl1 hC1 hl2 hC2
  go_wp2_with (first | ((with_reducible refine gate_builtin (b := .append) (xs := #[.tmp 31, .tmp 32]) rfl ?_); at_builtin; refine Kd.R_append_rows k65 (w0 := w) w.heap.size rfl (.tmp 31) (.tmp 32) 22 65 (.agg #[(.int .i64 0), (.string ⟨#[]⟩), (.string ⟨#[]⟩)]) 40 rfl Try.underlying22 info65 rfl (by decide) (by omega) (.slice A1 L.length c1) L M _ _ _ (fun _ => True) (fun _ => False) rfl rfl ?aO ?aR (fun _ _ h => h) (fun _ h => h.elim) (fun _ _ => trivial) ?aB ?aS ?aL ?_; (case aR => exact HC2.out); (case aB => exact HW2.out); (case aO => exact HO1.out); (case aS => exact HW2.out.size); (case aL => have h1 := HLL.out; have h2 := HMM.out; simp; omega); intro v33 w3 ho hb hg hat; have HO3 := Aside0.mk ho; have HW3 := Aside0.mk hb; have HE3 := Kd.R_reads ho; obtain ⟨A3, c3, rfl, hl3, hC3⟩ := HE3; have HC3 := Aside0.mk hC3; have HL3 := Aside0.mk hl3; clear ho hb hg hat hl3 hC3))
  (with_reducible refine (Encode_calls' _ n A3 c3 (L ++ M) _ List.length_append _ _ _ HC3.out HL3.out H.out).mono ?_)
  rintro e w4 ⟨v4, rfl, ho, hb⟩
  have HO := Aside0.mk (Kd.R_lower ho HW3.out.size)
  have HW4 := Aside0.mk (below_step HW3.out hb)
  clear ho hb
  go_wp2
  go_ret2
  exact ⟨v4, rfl, HO.out, HW4.out⟩
set_option maxHeartbeats 8000000 in
set_option maxRecDepth 100000 in
theorem batch_Join_bad (A : Option Addr) (c : Nat) (a : List Int) (B : Option Addr) (d : Nat) (b : List Int) (n : Int) (L : List Op04) (y : Int) (m : Int) (M : List Op04) (z : Int) (w : World) (hra : Kd.C (Kd.int .u8) w A a.length a) (hc : a.length ≤ c) (hba : Bytes a) (hla : a.length ≤ 1048576) (hrb : Kd.C (Kd.int .u8) w B b.length b) (hd : b.length ≤ d) (hbb : Bytes b) (hlb : b.length ≤ 1048576)
    (ha : decB a = (n, L, y)) (hb : decB b = (m, M, z)) (h : y ≠ 0 ∨ z ≠ 0) :
    Calls Try.prog 44 #[.slice A a.length c, .slice B b.length d] w fun e w' => ∃ v0_ : Value, e = .returned (.tuple #[v0_, .int .i64 41]) ∧ Kd.R (Kd.int .u8) 5 w' w.heap.size (fun _ => True) v0_ [] ∧ Below w.heap.size w w' := by
  have HRA := Aside0.mk hra
  have HCA := Aside0.mk hc
  have HBA := Aside0.mk hba
  have HLA := Aside0.mk hla
  have HRB := Aside0.mk hrb
  have HCB := Aside0.mk hd
  have HBB := Aside0.mk hbb
  have HLB := Aside0.mk hlb
  have HDA := Aside0.mk ha
  have HDB := Aside0.mk hb
  have hyz := h
  clear hra hc hba hla hrb hd hbb hlb ha hb h
  by_cases hy : y = 0
  · have hz : z ≠ 0 := by rcases hyz with h | h; exact absurd hy h; exact h
    clear hyz
    go_enter Try.func44, Try.ntmps44
    go_wp2_with fail
    (with_reducible refine (batch_Decode_calls' A c a _ _ HRA.out HCA.out HBA.out HLA.out HDA.out).mono ?_)
    rintro e w1 ⟨v1, rfl, ho, hb⟩
    have HW1 := Aside0.mk hb
    clear ho hb
    go_wp2_with fail
    (with_reducible refine (batch_Decode_calls' B d b _ _ (Kd.C_below HRB.out HW1.out) HCB.out HBB.out HLB.out HDB.out).mono ?_)
    rintro e w2 ⟨v2, rfl, ho, hb⟩
    have HW2 := Aside0.mk (below_step HW1.out hb)
    clear ho hb
    go_wp2
    go_ret2
    exact ⟨.slice none 0 0, rfl, Kd.R_nil _ _ _ _ _, HW2.out⟩
  · clear hyz
    go_enter Try.func44, Try.ntmps44
    go_wp2_with fail
    (with_reducible refine (batch_Decode_calls' A c a _ _ HRA.out HCA.out HBA.out HLA.out HDA.out).mono ?_)
    rintro e w1 ⟨v1, rfl, ho, hb⟩
    have HW1 := Aside0.mk hb
    clear ho hb
    go_wp2_with fail
    (with_reducible refine (batch_Decode_calls' B d b _ _ (Kd.C_below HRB.out HW1.out) HCB.out HBB.out HLB.out HDB.out).mono ?_)
    rintro e w2 ⟨v2, rfl, ho, hb⟩
    have HW2 := Aside0.mk (below_step HW1.out hb)
    clear ho hb
    go_wp2
    go_ret2
    exact ⟨.slice none 0 0, rfl, Kd.R_nil _ _ _ _ _, HW2.out⟩
theorem batch_Join_calls (A : Option Addr) (c : Nat) (a : List Int) (B : Option Addr) (d : Nat) (b : List Int) (w : World) (hra : Kd.C (Kd.int .u8) w A a.length a) (hc : a.length ≤ c) (hba : Bytes a) (hrb : Kd.C (Kd.int .u8) w B b.length b) (hd : b.length ≤ d) (hbb : Bytes b) (hl : a.length + b.length ≤ 1048576) :
    Calls Try.prog 44 #[.slice A a.length c, .slice B b.length d] w fun e w' => ∃ v0_ : Value, e = .returned (.tuple #[v0_, .int .i64 (joinR a b).2]) ∧ Kd.R (Kd.int .u8) 5 w' w.heap.size (fun _ => True) v0_ (joinR a b).1 ∧ Below w.heap.size w w' := by
  have hsa := decB_len a hba (by omega)
  have hsb := decB_len b hbb (by omega)
  have hq := decB_seq a hba
  unfold joinR
  by_cases ha : (decB a).2.2 = 0
  · rw [if_pos ha]
    by_cases hb : (decB b).2.2 = 0
    · rw [if_pos hb]
      refine batch_Join_good A c a B d b (decB a).1 (decB a).2.1 (decB b).1 (decB b).2.1 _ _ w hra hc hba (by omega) hrb hd hbb (by omega) ?_ ?_ (by omega) (by omega) (encode_eq _ _ _ hq ⟨by rw [List.length_append]; omega, fun x hx => (List.mem_append.1 hx).elim (hsa.2 x) (hsb.2 x)⟩ (Nat.le_refl _))
      · rw [← ha]
      · rw [← hb]
    · rw [if_neg hb]
      exact batch_Join_bad A c a B d b _ _ _ _ _ _ w hra hc hba (by omega) hrb hd hbb (by omega) rfl rfl (.inr hb)
  · rw [if_neg ha]
    exact batch_Join_bad A c a B d b _ _ _ _ _ _ w hra hc hba (by omega) hrb hd hbb (by omega) rfl rfl (.inl ha)

end Go.Proofs.Ythkooncibfkepaa.G

/- Contracts typed by hand: morainelaw04.lent makes a copy with a mark behind its end; morainelaw04.kept tells that such a copy stands as it was. -/
namespace Go.Proofs.Ythkooncibfkepaa.G
open Go.RowKit Go.Proofs.YthkooncibfkepaaW.PrintWords Go.Proofs.YthkooncibfkepaaW.PrintLast Go.Proofs.YthkooncibfkepaaW.PrintMore
attribute [local go_sem] max2_int min2_int max_two min_two max_three min_three max_four min_four
set_option linter.unusedVariables false
set_option linter.unusedSimpArgs false

/-! morainelaw04.lent makes a copy with a mark behind its end; morainelaw04.kept tells that such a copy stands as it was. -/

theorem C_prefix {w : World} {A : Option Addr} {xs ys : List Int} (h : Kd.C (Kd.int .u8) w A (xs.length + ys.length) (xs ++ ys)) : Kd.C (Kd.int .u8) w A xs.length xs := by
  rw [← List.length_append] at h
  have h1 := Kd.C_take (m := xs.length) h (by simp)
  rwa [List.take_left] at h1
theorem lent_len (l : List Int) : (l ++ [(90 : Int)]).length = l.length + 1 := by simp
theorem lent_rd (l : List Int) : rd (l ++ [(90 : Int)]) (l.length : Int) = 90 := by simp [rd, List.getD_eq_getElem?_getD]
set_option maxHeartbeats 2000000 in
theorem morainelaw04_lent.calls (A0 : Option Addr) (c0 : Nat) (l0 : List Int) (w : World) (hr0 : Kd.C (Kd.int .u8) w A0 l0.length l0) (hc0 : l0.length ≤ c0) (hl : l0.length ≤ 140737488355000) :
    Calls Try.prog 32 #[.slice A0 l0.length c0] w fun e w' => ∃ (A : Option Addr) (c : Nat), e = .returned (.slice A l0.length c) ∧ Kd.R (Kd.int .u8) 5 w' w.heap.size (fun _ => True) (.slice A (l0.length + 1) c) (l0 ++ [90]) ∧ Below w.heap.size w w' := by
  have HR := Aside0.mk hr0
  have HC := Aside0.mk hc0
  clear hr0 hc0
  have HL := Aside0.mk hl
  have hinfo : (Try.prog.info? 5).map (fun i => (i.zero, i.size, i.bytes)) = some (some (.int .u8 0), 1, 1) := by kernel_rfl
  have HI := Aside0.mk hinfo
  clear hinfo
  have HB := Aside0.mk (Below.refl w.heap.size w)
  go_enter Try.func32, Try.ntmps32
  go_wp2_with (first | ((with_reducible refine gate_dst (N := 3) rfl ?_); refine Kd.R_lit (Kd.int .u8) _ 5 ?hg (N := 3) ?hd (xs := ([] : List Int)) (inner := []) (ok := fun _ => True) (okp := fun _ => True) ?hr ?hp (fun _ hk => hk) trivial (Below.refl _ _) (Nat.le_refl _) (by simp) ?_; (case hd => rfl); (case hg => rfl); (case hr => first | (go_simp; done) | (go_simp; rfl)); (case hp => exact (Reps.none _ _)); intro v102 w6 ho7 hb hg_ hnew_; clear hg_ hnew_; have HO1 := Aside0.mk ho7; have HB1 := Aside0.mk hb; clear hb ho7) | ((with_reducible refine gate_builtin (b := .append) (xs := #[.tmp 3, .tmp 4]) rfl ?_); at_builtin; refine Kd.R_append_rows (Kd.int .u8) (w0 := w) w.heap.size rfl (.tmp 3) (.tmp 4) 33 5 (.int .u8 0) 1 rfl Try.underlying33 HI.out rfl (by decide) (by omega) v102 [] l0 _ _ _ (fun _ => True) (fun _ => False) rfl rfl ?aO ?aR (fun _ _ h => h) (fun _ h => h.elim) (fun _ _ => trivial) ?aB ?aS ?aL ?_; (case aR => exact (Kd.C_below HR.out HB1.out)); (case aB => exact HB1.out); (case aO => exact HO1.out); (case aS => exact HB1.out.size); (case aL => have := HL.out; simp; omega); intro v105 w8 ho hb hg hat; have HO2 := Aside0.mk ho; have HB2 := Aside0.mk hb; clear ho hb hg hat) | ((with_reducible refine gate_builtin (b := .append) (xs := #[.tmp 5, .tmp 6]) rfl ?_); at_builtin; refine Kd.R_append (Kd.int .u8) (w0 := w) w.heap.size rfl (.tmp 5) (.tmp 6) 33 5 (.int .u8 0) 1 rfl Try.underlying33 HI.out rfl (by decide) (by omega) v105 ([] ++ l0) 90 [.int .u8 90] (fun _ => True) (fun _ => False) rfl rfl ?aP (fun _ hk => hk.elim) (fun _ _ => trivial) ?aO ?aB ?aS ?aL ?_; (case aP => exact rfl); (case aB => exact HB2.out); (case aO => exact HO2.out); (case aS => exact HB2.out.size); (case aL => have := HL.out; simp; omega); intro v108 w9 ho hb hg hat; have ho2 : Kd.R (Kd.int .u8) 5 w9 w.heap.size (fun _ => True) v108 (l0 ++ [90]) := ho; have HB3 := Aside0.mk hb; clear ho hb hg hat; obtain ⟨Ao10, co10, eo10⟩ := Kd.R_slice ho2; subst eo10; rw [lent_len] at ho2; have HO3 := Aside0.mk ho2; have hcc : l0.length + 1 ≤ co10 := (Kd.R_reads' ho2).2.1; clear ho2; obtain ⟨i011, hi011, _, hsz11, _⟩ := info_parts HI.out; rw [lent_len]; have hcut11 := cut_to (P := Try.prog) 33 5 .i64 Try.underlying33 hi011 Ao10 (l0.length + 1) co10 (l0.length : Int) (by omega) (by omega) hcc; rw [Int.toNat_natCast] at hcut11; clear hi011 hsz11))
  go_ret
  exact ⟨_, _, rfl, HO3.out, HB3.out⟩
set_option maxHeartbeats 2000000 in
theorem morainelaw04_kept.calls (A0 : Option Addr) (c0 : Nat) (l0 : List Int) (A1 : Option Addr) (c1 : Nat) (w : World) (hr0 : Kd.C (Kd.int .u8) w A0 (l0.length + 1) (l0 ++ [90])) (hc0 : l0.length + 1 ≤ c0) (hr1 : Kd.C (Kd.int .u8) w A1 l0.length l0) (hl : l0.length ≤ 140737488355000) :
    Calls Try.prog 38 #[.slice A0 l0.length c0, .slice A1 l0.length c1] w fun e w' => e = .returned (.bool true) ∧ Drawn0 w w' := by
  have hcv0 := Kd.C_string (P := Try.prog) (w := w) (A := A0) (c := c0) Try.underlying33 Try.underlying5 Try.underlying9 (C_prefix (ys := [90]) hr0)
  have hcv1 := Kd.C_string (P := Try.prog) (w := w) (A := A1) (c := c1) Try.underlying33 Try.underlying5 Try.underlying9 hr1
  obtain ⟨ad, e1, hx⟩ := Kd.at_int hr0 (l0.length : Int) (by omega) (by omega)
  rw [lent_rd, Int.toNat_natCast] at hx
  cases e1
  clear hr0 hr1
  generalize hn : l0.length = n at *
  clear hn
  go_enter Try.func38, Try.ntmps38
  go_wp2
  go_ret
  exact ⟨by simp, Drawn0.refl _⟩


end Go.Proofs.Ythkooncibfkepaa.G

/- Contracts typed by hand: the law BatchEncodes: its walk -/
namespace Go.Proofs.Ythkooncibfkepaa.G
open Go.RowKit Go.Proofs.YthkooncibfkepaaW.PrintWords Go.Proofs.YthkooncibfkepaaW.PrintLast Go.Proofs.YthkooncibfkepaaW.PrintMore
attribute [local go_sem] max2_int min2_int max_two min_two max_three min_three max_four min_four
set_option linter.unusedVariables false
set_option linter.unusedSimpArgs false

/-! the law BatchEncodes: its walk -/
set_option maxHeartbeats 8000000 in
set_option maxRecDepth 100000 in
theorem BatchEncodes_calls (k : Nat) (a0 : Int) (A0 : Option Addr) (c0 : Nat) (l0 : List S65) (w : World) (hc0 : l0.length ≤ c0) (hr0 : Kd.C k65 w A0 l0.length l0) (hl : l0.length ≤ 2097152) (r : List Int) (f : Int) (hrl : r.length ≤ 4398046511104)
    (h1 : batch_Encode.f k a0 l0 = some (r, f)) (h2 : moraineref04_Encode.f k a0 l0 = some (r, f)) :
    Calls Try.prog 4 #[.int .u64 a0, .slice A0 l0.length c0] w fun e w' => e = .returned (.bool true) ∧ Below w.heap.size w w' := by
  have HR0 := Aside0.mk hr0
  have HC0 := Aside0.mk hc0
  have HL := Aside0.mk hl
  have H1 := Aside0.mk h1
  have H2 := Aside0.mk h2
  have HRL := Aside0.mk hrl
  clear hc0 hr0 hl h1 h2 hrl
  go_enter Try.func4, Try.ntmps4
  go_wp2_with fail
  (with_reducible refine (morainelaw04_copied.calls A0 c0 l0 _ HR0.out HL.out).mono ?_)
  rintro e w1 ⟨A2, c2, rfl, ho, hb⟩
  have HB1 := Aside0.mk hb
  have HO1 := Aside0.mk (copied_out ho)
  have HP1 := Aside0.mk (C_prefix65 (ys := [mark04]) (copied_out ho).1)
  have HC1 := Aside0.mk (show l0.length ≤ c2 by have := (copied_out ho).2; omega)
  clear hb ho
  go_wp2_with fail
  (with_reducible refine (batch_Encode.calls k a0 A2 c2 l0 _ _ _ HP1.out HC1.out H1.out).mono ?_)
  rintro e w2 ⟨v2, rfl, ho, hb⟩
  have HA2 := Aside0.mk ho
  have HB2 := Aside0.mk (below_step HB1.out hb)
  have HN2 := Aside0.mk hb
  have HS2 := Aside0.mk (show w.heap.size ≤ w1.heap.size from HB1.out.size)
  clear hb ho
  go_wp2_with fail
  (with_reducible refine (batch_Encode.calls k a0 A2 c2 l0 _ _ _ (Kd.C_below HP1.out HN2.out) HC1.out H1.out).mono ?_)
  rintro e w3 ⟨v3, rfl, ho, hb⟩
  have HA3 := Aside0.mk (Kd.R_newR ho HA2.out)
  have HA2 := Aside0.mk (Kd.R_below HA2.out hb)
  have HB3 := Aside0.mk (below_step HB2.out hb)
  have HN3 := Aside0.mk (below_step HN2.out hb)
  clear hb ho
  go_wp2_with fail
  (with_reducible refine (moraineref04_Encode.calls k a0 A0 c0 l0 _ _ _ (Kd.C_below HR0.out HB3.out) HC0.out H2.out).mono ?_)
  rintro e w4 ⟨v4, rfl, ho, hb⟩
  have HA4 := Aside0.mk (Kd.R_newR ho HA2.out)
  have HA3 := Aside0.mk (Kd.R_below HA3.out hb)
  have HA2 := Aside0.mk (Kd.R_below HA2.out hb)
  have HB4 := Aside0.mk (below_step HB3.out hb)
  have HN4 := Aside0.mk (below_step HN3.out hb)
  clear hb ho
  have hcv2 := own_string (P := Try.prog) Try.underlying33 Try.underlying5 Try.underlying9 (Kd.own_of_R HA2.out)
  have hcv4 := own_string (P := Try.prog) Try.underlying33 Try.underlying5 Try.underlying9 (Kd.own_of_R HA4.out)
  obtain ⟨B2, d2, rfl⟩ := Kd.R_slice HA2.out
  obtain ⟨B3, d3, rfl⟩ := Kd.R_slice HA3.out
  obtain ⟨B4, d4, rfl⟩ := Kd.R_slice HA4.out
  go_wp2_with fail
  (with_reducible refine (morainelaw04_stay.calls A2 c2 l0 A0 c0 _ (Kd.C_below HO1.out.1 HN4.out) HO1.out.2 (Kd.C_below HR0.out HB4.out) HC0.out HL.out).mono ?_)
  rintro e w5 ⟨rfl, hd⟩
  have HA4 := Aside0.mk (Kd.R_below HA4.out hd.below)
  have HA3 := Aside0.mk (Kd.R_below HA3.out hd.below)
  have HA2 := Aside0.mk (Kd.R_below HA2.out hd.below)
  have HB5 := Aside0.mk (below_step HB4.out hd.below)
  clear hd hcv2 hcv4
  go_wp2_with fail
  (with_reducible refine (morainelaw04_names.calls true _ rfl).mono ?_)
  rintro e w6 ⟨rfl, hd⟩
  have HA4 := Aside0.mk (Kd.R_below HA4.out hd.below)
  have HA3 := Aside0.mk (Kd.R_below HA3.out hd.below)
  have HA2 := Aside0.mk (Kd.R_below HA2.out hd.below)
  have HB6 := Aside0.mk (below_step HB5.out hd.below)
  clear hd
  generalize hn : r.length = n at *
  have HN := Aside0.mk hn
  have HRL2 := HRL.out
  clear hn
  go_wp2
  go_loopw [12] (fun v12 wr => ∃ (j : Nat) (xs : List Int), v12 = .int .i64 (j : Int) ∧ j ≤ n ∧ Aside0 (xs.length = n) ∧ Aside0 (Kd.R (Kd.int .u8) 5 wr w1.heap.size (fun _ => True) (.slice B2 n d2) xs) ∧ Aside0 (Kept w6 wr (fun k_ => some k_ = (Value.slice B2 n d2).ownBlock)) ∧ Aside0 (Below w1.heap.size w wr → Below w.heap.size w wr) ∧ Aside0 (Below w.heap.size w wr)) (fun v12 _ => n - (intOf v12).toNat)
  case atStart => exact ⟨0, r, rfl, by omega, HN, HA2, ⟨Kept.refl _ _⟩, ⟨fun h => HB6.out⟩, HB6⟩
  case round =>
    obtain ⟨j, xs, rfl, hjn, HXL, HX, HK, _, HB⟩ := hrel
    by_cases hlt : j < n
    · have b1 : decide ((j : Int) < (n : Int)) = true := decide_eq_true (by omega)
      have hxl := HXL.out
      obtain ⟨g, cg, eg, gb, gl, cl, HG⟩ := Kd.R_form HX.out (by omega)
      injection eg with ea en ec
      subst ea
      clear en ec
      have GB := Aside0.mk gb
      have hxx := Kd.R_celln 0 HX.out (j : Int) (by omega) (by omega)
      obtain ⟨hx, hf⟩ := hxx
      rw [Int.toNat_natCast] at hx hf
      obtain ⟨u, hu⟩ : ∃ u, rdOf 0 xs (j : Int) = u := ⟨_, rfl⟩
      rw [hu] at hx
      clear hu
      have HP := Kd.R_putg HX.out (j : Int) (IntKind.u8.wrap (u + 1))
      rw [Int.toNat_natCast] at HP
      have HP2 := Aside0.mk HP
      have ew : wrap64 ((j : Int) + 1) = ((j + 1 : Nat) : Int) := by unfold wrap64; omega
      have HG2 := Aside0.mk HG
      have hxl2 : (xs.set j (IntKind.u8.wrap (u + 1))).length = n := by rw [List.length_set]; exact hxl
      have HXL2 := Aside0.mk hxl2
      clear HG gb gl HP hxl hxl2
      go_wp2_with (first | ((with_reducible refine gate_store (t := 5) (p := 66) rfl ?_); refine store_event (t := 5) (p := 66) (v := ?vo) (w1 := (wr.setCell ⟨g, j, none⟩ (.int .u8 (IntKind.u8.wrap (u + 1))))) ?hg ?ho ?hn ?hr ?_; (case ho => rfl); (case hg => rfl); (case hn => rfl); (case hr => first | (go_simp; done) | (go_simp; rfl)); intro w13 hw; have HX2 := Aside0.mk (show Kd.R (Kd.int .u8) 5 w13 w1.heap.size (fun _ => True) (.slice (some ⟨g, 0, none⟩) n d2) (xs.set j (IntKind.u8.wrap (u + 1))) by rw [hw]; exact HP2.out.1); have HG13 := Aside0.mk (show wr.grownBy w13 (some g) by rw [hw]; exact HP2.out.2); have HK13 := Aside0.mk (Kept.of_grown HG13.out HK.out (fun k_ e_ => .inl e_.symm)); have HB13 := Aside0.mk (HB.out.grown HG13.out HB.out.size (fun k_ e_ => (Option.some.inj e_) ▸ Nat.le_trans HS2.out GB.out)); clear hw))
      go_roundw
      case rel => exact ⟨j + 1, _, by go_num, by omega, HXL2, HX2, HK13, ⟨fun _ => HB13.out⟩, HB13⟩
      case measure => simp only [intOf]; omega
    · have b1 : decide ((j : Int) < (n : Int)) = false := decide_eq_false (by omega)
      have HA3 := Aside0.mk (Kd.R_kept HA3.out HK.out (fun k_ hk he => hk.2 he))
      have HA4 := Aside0.mk (Kd.R_kept HA4.out HK.out (fun k_ hk he => hk.2 he))
      have hcv3 := own_string (P := Try.prog) Try.underlying33 Try.underlying5 Try.underlying9 (Kd.own_of_R HA3.out)
      have hcv4 := own_string (P := Try.prog) Try.underlying33 Try.underlying5 Try.underlying9 (Kd.own_of_R HA4.out)
      go_wp2
      go_ret
      exact ⟨by simp, HB.out⟩
theorem encR_len (seq : Int) (l : List Op04) (hs : Sane l) : (encR seq l).1.length ≤ 4398046511104 := by
  have h1 := totN_le l hs.2
  have h2 := hs.1
  unfold encR
  split
  · split
    · rw [encB_len]; omega
    · simp
  · simp
theorem BatchEncodes_upto (w : World) (a0 : Int) (hg0 : (Lit.int .u64 a0).wf = true) (A1 : Option Addr) (c1 : Nat) (l1 : List S65) (hc1 : l1.length ≤ c1) (hr1 : Kd.C k65 w A1 l1.length l1) (hg1 : ∀ x ∈ l1, (Lit.int .i64 x.f0).wf = true ∧ x.f1.size ≤ maxLen ∧ x.f2.size ≤ maxLen)
    (hbulk : 1 + (sumBulk (fun x : S65 => 1 + (x.f1.size + 1) + (x.f2.size + 1) + 1) l1 + 1) ≤ 1048576) :
    Calls Try.prog 4 #[.int .u64 a0, .slice A1 l1.length c1] w fun e w' => e = .returned (.bool true) ∧ Below w.heap.size w w' := by
  have hs := sane_of_bulk (l := l1) (by omega)
  have hl := hs.1
  have ha : 0 ≤ a0 ∧ a0 ≤ 18446744073709551615 := by simpa [Lit.wf, IntKind.min, IntKind.max, IntKind.signed, IntKind.bits] using hg0
  exact BatchEncodes_calls (13 + 2 * l1.length) a0 A1 c1 l1 w hc1 hr1 (by omega) _ _ (encR_len a0 l1 hs) (encode_eq _ a0 l1 ha.1 hs (by omega)) (refencode_eq _ a0 l1 ha.1 hs (by omega))

end Go.Proofs.Ythkooncibfkepaa.G
