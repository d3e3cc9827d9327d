/- Contracts typed by hand: batch.Check: the first operation that may not be, by slices.IndexFunc with its function -/
import Derived.Test.YthkooncibfkepaaProg
import Derived.Below
import Derived.Deep.Draws
import Derived.Deep.AppendLies
import Derived.Maps.AppendAt
import Derived.OwnWalk
import Derived.Laws.BytesArg
import Derived.Laws.MakeOwn
import Derived.Laws.OwnMore
import Derived.Deep.OwnRows
import Derived.Tactics
import Derived.Lib.ConvBytes
import Derived.Laws.Slices
import Derived.WalkKit
import Derived.KernelRfl
import Derived.RowKit3
import Derived.Deep.LoopGhost
import Derived.Deep.QuietTactic
import Derived.BigQuiet
import Derived.WideLaws
import Derived.Deep.DeepCutAuto
import Derived.Deep.CutBlock
import Derived.Deep.RegionHeld3
import Derived.Laws.Rows
import Derived.Lib.AppendStr
import Derived.ArgAppend
import Derived.Laws.IdiomCopy
import Derived.OrdersHeld
import Derived.Laws.BitsLemmas
import Derived.RowKit
import Derived.Test.YthkooncibfkepaaWWords
import Derived.Test.YthkooncibfkepaaWLast
import Derived.Test.YthkooncibfkepaaWTab
import Derived.Test.YthkooncibfkepaaWFour
import Derived.Test.YthkooncibfkepaaWQPut
import Derived.Test.YthkooncibfkepaaWApart
import Derived.Test.YthkooncibfkepaaWArr
import Derived.Test.YthkooncibfkepaaWZeros
import Derived.Test.YthkooncibfkepaaWFoot
import Derived.Test.YthkooncibfkepaaWKept
import Derived.Test.YthkooncibfkepaaWShare
import Derived.Test.YthkooncibfkepaaWN
import Derived.Test.YthkooncibfkepaaWFootNe
import Derived.Test.YthkooncibfkepaaWAt
import Derived.Test.YthkooncibfkepaaWEqStruct
import Derived.Test.YthkooncibfkepaaWRepsOne
import Derived.Test.YthkooncibfkepaaWInv
import Derived.Test.YthkooncibfkepaaWInvWords
import Derived.Test.YthkooncibfkepaaWGuard
import Derived.Test.YthkooncibfkepaaWNEv
import Derived.Test.YthkooncibfkepaaWMore
import Derived.Test.YthkooncibfkepaaGx61
import Derived.Test.YthkooncibfkepaaGx8
namespace Go.Proofs.Ythkooncibfkepaa.G
open Go.RowKit Go.Proofs.YthkooncibfkepaaW.PrintWords Go.Proofs.YthkooncibfkepaaW.PrintLast Go.Proofs.YthkooncibfkepaaW.PrintMore
attribute [local go_sem] max2_int min2_int max_two min_two max_three min_three max_four min_four
set_option linter.unusedVariables false
set_option linter.unusedSimpArgs false

/-! batch.Check: the first operation that may not be, by slices.IndexFunc with its function -/
set_option maxHeartbeats 1000000 in
theorem check1_calls (k : Nat) (x0 : Int) (x1 x2 : ByteArray) (r : Bool) (w : World) (h : batch_may.f k x0 x1 x2 = some r) :
    Calls Try.prog 48 #[.agg #[.int .i64 x0, .string x1, .string x2]] w fun e w' => e = .returned (.bool (!r)) ∧ Below w.heap.size w w' := by
  have HM := Aside0.mk h
  clear h
  have hu := Try.underlying65
  go_enter Try.func48, Try.ntmps48
  go_wp2_with fail
  (with_reducible refine (batch_may.calls k x0 x1 x2 r _ HM.out).mono ?_)
  rintro e w1 ⟨rfl, hb⟩
  have HB := Aside0.mk (below_step (below_alloc (Below.refl _ _) _) hb)
  clear hb
  go_wp2
  go_ret
  exact ⟨by simp, HB.out⟩
def batch_Check.idx (k : Nat) : List S65 → Nat → Option Int
  | [], _ => some (-1)
  | x :: r, i => (batch_may.f k x.f0 x.f1 x.f2).bind fun b => if b = true then batch_Check.idx k r (i + 1) else some (i : Int)
theorem batch_Check.idx_mono (k : Nat) : ∀ l i, LeO (batch_Check.idx k l i) (batch_Check.idx (k + 1) l i)
  | [], _ => LeO.refl _
  | x :: r, i => by
    simp only [batch_Check.idx]
    exact LeO.bind (batch_may.mono _ _ _ _) fun b => LeO.ite (batch_Check.idx_mono k r (i + 1)) (LeO.refl _)
theorem drop_rdT (l : List S65) (j : Nat) (h : j < l.length) : l.drop j = rd_T65 l (j : Int) :: l.drop (j + 1) := by
  rw [List.drop_eq_getElem_cons h]
  congr 1
  simp [rd_T65, List.getD_eq_getElem?_getD, List.getElem?_eq_getElem h]
set_option maxHeartbeats 4000000 in
set_option maxRecDepth 100000 in
theorem indexfunc_calls (k : Nat) (A0 : Option Addr) (c0 : Nat) (l0 : List S65) (r : Int) (w : World) (hln : l0.length ≤ 4096) (hr0 : Kd.C k65 w A0 l0.length l0) (h : batch_Check.idx k l0 0 = some r) :
    Calls Try.prog 47 #[.slice A0 l0.length c0, .func (.func 48) #[] #[]] w fun e w' => e = .returned (.int .i64 r) ∧ Below w.heap.size w w' := by
  have HR := Aside0.mk hr0
  have HX := Aside0.mk h
  clear hr0 h
  have hu := Try.underlying65
  go_enter Try.func47, Try.ntmps47
  go_wp2
  go_loopw [8] (fun v8 wr => ∃ (j : Nat), v8 = .int .i64 (j : Int) ∧ j ≤ l0.length ∧ Aside0 (batch_Check.idx k (l0.drop j) j = some r) ∧ Aside0 (Below w.heap.size w wr)) (fun v8 _ => l0.length - (intOf v8).toNat)
  case atStart => exact ⟨0, rfl, by omega, ⟨HX.out⟩, ⟨Below.refl _ _⟩⟩
  case round =>
    clear HX
    obtain ⟨j, rfl, hjl, HF, HB⟩ := hrel
    by_cases hlt : j < l0.length
    · obtain ⟨ad, e1, h0, h1, h2⟩ := at_T65 (Kd.C_below HR.out HB.out) (j : Int) (by omega) (by omega)
      cases e1
      have hf := HF.out
      rw [drop_rdT l0 j hlt] at hf
      generalize rd_T65 l0 (j : Int) = x at *
      obtain ⟨x0, x1, x2⟩ := x
      simp only [Int.toNat_natCast] at h0 h1 h2
      simp only [batch_Check.idx] at hf
      obtain ⟨b, hb, hf2⟩ := Option.bind_eq_some_iff.1 hf
      have HM := Aside0.mk hb
      clear hf hb HF
      have b1 : decide ((j : Int) < (l0.length : Int)) = true := decide_eq_true (by omega)
      have ew : wrap64 ((j : Int) + 1) = ((j + 1 : Nat) : Int) := by unfold wrap64; omega
      cases b with
      | true =>
        rw [if_pos rfl] at hf2
        have HF2 := Aside0.mk hf2
        clear hf2
        go_wp2_with (first | (go_at_call 48; (with_reducible refine (check1_calls k x0 x1 x2 true _ HM.out).mono ?_); rintro e w4 ⟨rfl, hb4⟩; have HB4 := Aside0.mk (below_step HB.out hb4); clear hb4))
        go_roundw
        case rel => exact ⟨j + 1, by go_num, by omega, HF2, HB4⟩
        case measure => simp only [intOf]; omega
      | false =>
        rw [if_neg Bool.false_ne_true] at hf2
        obtain rfl := Option.some.inj hf2
        clear hf2
        go_wp2_with (first | (go_at_call 48; (with_reducible refine (check1_calls k x0 x1 x2 false _ HM.out).mono ?_); rintro e w4 ⟨rfl, hb4⟩; have HB4 := Aside0.mk (below_step HB.out hb4); clear hb4))
        go_ret
        exact ⟨rfl, HB4.out⟩
    · obtain rfl : j = l0.length := by omega
      have hf := HF.out
      rw [List.drop_length] at hf
      simp only [batch_Check.idx, Option.some.injEq] at hf
      subst hf
      clear HF
      go_wp2
      go_ret
      exact ⟨rfl, HB.out⟩
def batch_Check.f (k : Nat) (l0 : List S65) : Option (Int × Int) := if (l0.length : Int) > 4096 then some (0, 3) else (batch_Check.idx k l0 0).bind fun i => (if i ≥ 0 then some (i, 40) else (batch_total.f k l0).bind fun t => (if t > 1048576 then some (0, 3) else some (0, 0)))
theorem batch_Check.mono : ∀ l0 k, LeO (batch_Check.f k l0) (batch_Check.f (k + 1) l0) := by
  intro l0 k
  unfold batch_Check.f
  exact LeO.ite (LeO.refl _) (LeO.bind (batch_Check.idx_mono k l0 0) fun _ => LeO.ite (LeO.refl _) (LeO.bind (batch_total.mono _ _) fun _ => LeO.refl _))
set_option maxHeartbeats 2000000 in
theorem batch_Check.calls (k : Nat) (A0 : Option Addr) (c0 : Nat) (l0 : List S65) (r1 r2 : Int) (w : World) (hr0 : Kd.C k65 w A0 l0.length l0) (hc0 : l0.length ≤ c0) (h : batch_Check.f k l0 = some (r1, r2)) :
    Calls Try.prog 16 #[.slice A0 l0.length c0] w fun e w' => e = .returned (.tuple #[.int .i64 r1, .int .i64 r2]) ∧ Below w.heap.size w w' := by
  unfold batch_Check.f at h
  have HR := Aside0.mk hr0
  have HC := Aside0.mk hc0
  clear hr0 hc0
  by_cases hn : (l0.length : Int) > 4096
  · rw [if_pos hn] at h
    simp only [Option.some.injEq, Prod.mk.injEq] at h
    obtain ⟨rfl, rfl⟩ := h
    have b1 : decide ((4096 : Int) < (l0.length : Int)) = true := decide_eq_true (by omega)
    go_enter Try.func16, Try.ntmps16
    go_wp2
    go_ret2
    exact ⟨rfl, Below.refl _ _⟩
  · rw [if_neg hn] at h
    have b1 : decide ((4096 : Int) < (l0.length : Int)) = false := decide_eq_false (by omega)
    obtain ⟨i, hi, h⟩ := Option.bind_eq_some_iff.1 h
    have HI := Aside0.mk hi
    clear hi
    by_cases hp : i ≥ 0
    · rw [if_pos hp] at h
      simp only [Option.some.injEq, Prod.mk.injEq] at h
      obtain ⟨rfl, rfl⟩ := h
      have b2 : decide ((0 : Int) ≤ i) = true := decide_eq_true hp
      go_enter Try.func16, Try.ntmps16
      go_wp2_with (first | (go_at_call 47; (with_reducible refine (indexfunc_calls k _ _ l0 i _ (by omega) HR.out HI.out).mono ?_); rintro e w1 ⟨rfl, hb⟩; have HB := Aside0.mk hb; clear hb))
      go_ret2
      exact ⟨rfl, HB.out⟩
    · rw [if_neg hp] at h
      have b2 : decide ((0 : Int) ≤ i) = false := decide_eq_false (by omega)
      obtain ⟨t, ht, h⟩ := Option.bind_eq_some_iff.1 h
      have HT := Aside0.mk ht
      clear ht
      by_cases hq : t > 1048576
      · rw [if_pos hq] at h
        simp only [Option.some.injEq, Prod.mk.injEq] at h
        obtain ⟨rfl, rfl⟩ := h
        have b3 : decide ((1048576 : Int) < t) = true := decide_eq_true (by omega)
        go_enter Try.func16, Try.ntmps16
        go_wp2_with (first | (go_at_call 47; (with_reducible refine (indexfunc_calls k _ _ l0 i _ (by omega) HR.out HI.out).mono ?_); rintro e w1 ⟨rfl, hb⟩; have HB := Aside0.mk hb; clear hb) | (go_at_call 50; (with_reducible refine (batch_total.calls k _ _ l0 t _ (Kd.C_below HR.out HB.out) HC.out HT.out).mono ?_); rintro e w2 ⟨rfl, hb⟩; have HB2 := Aside0.mk (below_step HB.out hb); clear hb))
        go_ret2
        exact ⟨rfl, HB2.out⟩
      · rw [if_neg hq] at h
        simp only [Option.some.injEq, Prod.mk.injEq] at h
        obtain ⟨rfl, rfl⟩ := h
        have b3 : decide ((1048576 : Int) < t) = false := decide_eq_false (by omega)
        go_enter Try.func16, Try.ntmps16
        go_wp2_with (first | (go_at_call 47; (with_reducible refine (indexfunc_calls k _ _ l0 i _ (by omega) HR.out HI.out).mono ?_); rintro e w1 ⟨rfl, hb⟩; have HB := Aside0.mk hb; clear hb) | (go_at_call 50; (with_reducible refine (batch_total.calls k _ _ l0 t _ (Kd.C_below HR.out HB.out) HC.out HT.out).mono ?_); rintro e w2 ⟨rfl, hb⟩; have HB2 := Aside0.mk (below_step HB.out hb); clear hb))
        go_ret2
        exact ⟨rfl, HB2.out⟩

end Go.Proofs.Ythkooncibfkepaa.G
