/- Contracts typed by hand: ikey.Decode: a key of bytes -/
import Derived.Test.YtdoolmomkffdaaaProg
import Derived.Below
import Derived.Deep.Draws
import Derived.Deep.AppendLies
import Derived.Maps.AppendAt
import Derived.OwnWalk
import Derived.Laws.BytesArg
import Derived.Laws.MakeOwn
import Derived.Laws.OwnMore
import Derived.Deep.OwnRows
import Derived.Tactics
import Derived.Lib.ConvBytes
import Derived.Laws.Slices
import Derived.WalkKit
import Derived.KernelRfl
import Derived.RowKit3
import Derived.Deep.LoopGhost
import Derived.Deep.QuietTactic
import Derived.BigQuiet
import Derived.WideLaws
import Derived.Deep.DeepCutAuto
import Derived.Deep.CutBlock
import Derived.Deep.RegionHeld3
import Derived.Laws.Rows
import Derived.Lib.AppendStr
import Derived.ArgAppend
import Derived.Laws.IdiomCopy
import Derived.OrdersHeld
import Derived.Laws.BitsLemmas
import Derived.RowKit
import Derived.Test.YtdoolmomkffdaaaWWords
import Derived.Test.YtdoolmomkffdaaaWLast
import Derived.Test.YtdoolmomkffdaaaWTab
import Derived.Test.YtdoolmomkffdaaaWFour
import Derived.Test.YtdoolmomkffdaaaWQPut
import Derived.Test.YtdoolmomkffdaaaWApart
import Derived.Test.YtdoolmomkffdaaaWArr
import Derived.Test.YtdoolmomkffdaaaWZeros
import Derived.Test.YtdoolmomkffdaaaWFoot
import Derived.Test.YtdoolmomkffdaaaWKept
import Derived.Test.YtdoolmomkffdaaaWShare
import Derived.Test.YtdoolmomkffdaaaWN
import Derived.Test.YtdoolmomkffdaaaWFootNe
import Derived.Test.YtdoolmomkffdaaaWAt
import Derived.Test.YtdoolmomkffdaaaWEqStruct
import Derived.Test.YtdoolmomkffdaaaWRepsOne
import Derived.Test.YtdoolmomkffdaaaWInv
import Derived.Test.YtdoolmomkffdaaaWInvWords
import Derived.Test.YtdoolmomkffdaaaWGuard
import Derived.Test.YtdoolmomkffdaaaWNEv
import Derived.Test.YtdoolmomkffdaaaWMore
import Derived.Test.YtdoolmomkffdaaaGx28
import Derived.Test.YtdoolmomkffdaaaGx30
namespace Go.Proofs.Ytdoolmomkffdaaa.G
open Go.RowKit Go.Proofs.YtdoolmomkffdaaaW.PrintWords Go.Proofs.YtdoolmomkffdaaaW.PrintLast Go.Proofs.YtdoolmomkffdaaaW.PrintMore
attribute [local go_sem] max2_int min2_int max_two min_two max_three min_three max_four min_four
set_option linter.unusedVariables false
set_option linter.unusedSimpArgs false

/-! ikey.Decode: a key of bytes -/

def ikey_Decode.f (k : Nat) (l0 : List Int) : Option (ByteArray × Int × Int × Int) := if (l0.length : Int) ≤ 281474976710656 then (if (l0.length : Int) < 9 then some ((⟨#[]⟩ : ByteArray), 0, 0, 30) else if (l0.length : Int) > 1032 then some ((⟨#[]⟩ : ByteArray), 0, 0, 30) else
  (codec_Fixed64.f k l0 ((l0.length : Int) - 8)).bind fun t => (ikey_Unpack.f t.1).bind fun u => if u.2.2 = 0 then some (strOfNums (l0.take (l0.length - 8)), u.1, u.2.1, 0) else some ((⟨#[]⟩ : ByteArray), 0, 0, u.2.2)) else none
theorem ikey_Decode.mono : ∀ l0 k, LeO (ikey_Decode.f k l0) (ikey_Decode.f (k + 1) l0) := by
  intro l0 k
  unfold ikey_Decode.f
  exact LeO.ite (LeO.ite (LeO.refl _) (LeO.ite (LeO.refl _) (LeO.bind (codec_Fixed64.mono _ _ _) fun _ => LeO.refl _))) (LeO.refl _)
set_option maxHeartbeats 4000000 in
set_option maxRecDepth 100000 in
theorem ikey_Decode.calls (k : Nat) (A0 : Option Addr) (c0 : Nat) (l0 : List Int) (r1 : ByteArray) (r2 : Int) (r3 : Int) (r4 : Int) (w : World) (hr0 : Kd.C (Kd.int .u8) w A0 l0.length l0) (hc0 : l0.length ≤ c0) (h : ikey_Decode.f k l0 = some (r1, r2, r3, r4)) :
    Calls Try.prog 25 #[.slice A0 l0.length c0] w fun e w' => e = .returned (.tuple #[.agg #[.string r1, .int .u64 r2, .int .i64 r3], .int .i64 r4]) ∧ Below w.heap.size w w' := by
  have hu := Try.underlying35
  unfold ikey_Decode.f at h
  by_cases hl : (l0.length : Int) ≤ 281474976710656
  · rw [if_pos hl] at h
    have HR := Aside0.mk hr0
    have HC := Aside0.mk hc0
    have HB := Aside0.mk (below_alloc (Below.refl w.heap.size w) (.cells #[.string (⟨#[]⟩ : ByteArray), .int .u64 0, .int .i64 0] 35))
    have hbk0 : (w.alloc (.cells #[.string (⟨#[]⟩ : ByteArray), .int .u64 0, .int .i64 0] 35)).heap[w.heap.size]? = some (.cells #[.string (⟨#[]⟩ : ByteArray), .int .u64 0, .int .i64 0] 35 (0, 0)) := by
      show (w.heap.push _)[w.heap.size]? = _
      simp
    have BK := Aside0.mk hbk0
    clear hr0 hc0 hbk0
    by_cases h1 : (l0.length : Int) < 9
    · rw [if_pos h1] at h
      simp only [Option.some.injEq, Prod.mk.injEq] at h
      obtain ⟨rfl, rfl, rfl, rfl⟩ := h
      have b1 : decide ((l0.length : Int) - 8 < 1) = true := decide_eq_true (by omega)
      go_enter Try.func25, Try.ntmps25
      go_wp2
      refine bodyPost_ret (results_ct rfl _ _ w.heap.size 35 #[.string (⟨#[]⟩ : ByteArray), .int .u64 0, .int .i64 0] (0, 0) _ rfl ?bk1 Try.underlying35 rfl (by kernel_rfl)) rfl ?_
      case bk1 => exact BK.out
      exact ⟨rfl, HB.out⟩
    · rw [if_neg h1] at h
      by_cases h2 : (l0.length : Int) > 1032
      · rw [if_pos h2] at h
        simp only [Option.some.injEq, Prod.mk.injEq] at h
        obtain ⟨rfl, rfl, rfl, rfl⟩ := h
        have b1 : decide ((l0.length : Int) - 8 < 1) = false := decide_eq_false (by omega)
        have b2 : decide (1024 < (l0.length : Int) - 8) = true := decide_eq_true (by omega)
        go_enter Try.func25, Try.ntmps25
        go_wp2
        refine bodyPost_ret (results_ct rfl _ _ w.heap.size 35 #[.string (⟨#[]⟩ : ByteArray), .int .u64 0, .int .i64 0] (0, 0) _ rfl ?bk2 Try.underlying35 rfl (by kernel_rfl)) rfl ?_
        case bk2 => exact BK.out
        exact ⟨rfl, HB.out⟩
      · rw [if_neg h2] at h
        obtain ⟨⟨v, t2, t3⟩, hv, h⟩ := Option.bind_eq_some_iff.1 h
        obtain ⟨⟨u1, u2, u3⟩, hu3, h⟩ := Option.bind_eq_some_iff.1 h
        simp only [] at h
        have HV := Aside0.mk hv
        have HU := Aside0.mk (show ikey_Unpack.f v = some (u1, u2, u3) from hu3)
        clear hv hu3
        have b1 : decide ((l0.length : Int) - 8 < 1) = false := decide_eq_false (by omega)
        have b2 : decide (1024 < (l0.length : Int) - 8) = false := decide_eq_false (by omega)
        have b5 : decide (0 ≤ (l0.length : Int) - 8) = true := decide_eq_true (by omega)
        have b6 : decide ((l0.length : Int) - 8 ≤ (l0.length : Int)) = true := decide_eq_true (by omega)
        obtain ⟨i0, hi0, _, hsz, _⟩ := info_parts (show (Try.prog.info? 5).map (fun i => (i.zero, i.size, i.bytes)) = some (some (.int .u8 0), 1, 1) by kernel_rfl)
        have hcut := cut_to (P := Try.prog) 47 5 .i64 Try.underlying47 hi0 A0 l0.length c0 ((l0.length : Int) - 8) (by omega) (by omega) HC.out
        have hcv := fun W (q : Kd.C (Kd.int .u8) W A0 l0.length l0) => Kd.C_string (P := Try.prog) (w := W) (A := A0) (c := c0) Try.underlying47 Try.underlying5 Try.underlying9 (Kd.C_take (m := l0.length - 8) q (by omega))
        have hjn : ((l0.length : Int) - 8).toNat = l0.length - 8 := by omega
        rw [hjn] at hcut
        have htl : (l0.take (l0.length - 8)).length = l0.length - 8 := by rw [List.length_take]; omega
        obtain ⟨m8, hm8⟩ : ∃ m8, l0.length - 8 = m8 := ⟨_, rfl⟩
        obtain ⟨s8, hs8⟩ : ∃ s8, strOfNums (l0.take m8) = s8 := ⟨_, rfl⟩
        rw [hm8] at hcut hcv h htl
        have HTL := Aside0.mk htl
        rw [hs8] at hcv h
        have HCV := Aside0.mk hcv
        clear hi0 hsz hjn hm8 hs8 hcv htl
        by_cases h3 : u3 = 0
        · subst h3
          rw [if_pos rfl] at h
          simp only [Option.some.injEq, Prod.mk.injEq] at h
          obtain ⟨rfl, rfl, rfl, rfl⟩ := h
          go_enter Try.func25, Try.ntmps25
          go_wp2_with fail
          (with_reducible refine (codec_Fixed64.calls k A0 c0 l0 ((l0.length : Int) - 8) v t2 t3 _ (Kd.C_below HR.out HB.out) HC.out HV.out).mono ?_)
          rintro e w1 ⟨rfl, hd⟩
          have HB1 := Aside0.mk (below_step HB.out hd.below)
          have BK1 := Aside0.mk ((hd.below.block _ (blk_lt BK.out)).trans BK.out)
          have HR1 := Aside0.mk (Kd.C_below HR.out HB1.out)
          clear hd
          go_wp2_with fail
          (with_reducible refine (ikey_Unpack.calls _ _ _ _ _ HU.out).mono ?_)
          rintro e w2 ⟨rfl, hd⟩
          have HB2 := Aside0.mk (below_step HB1.out hd.below)
          have BK2 := Aside0.mk ((hd.below.block _ (blk_lt BK1.out)).trans BK1.out)
          have HR2 := Aside0.mk (Kd.C_below HR.out HB2.out)
          clear hd
          have hcw := HCV.out _ HR2.out
          rw [HTL.out] at hcw
          have hz0 : w2.cell? ⟨w.heap.size, 0, none⟩ = some (.string (⟨#[]⟩ : ByteArray)) := (blk_cell BK2.out 0).trans rfl
          have hz1 : w2.cell? ⟨w.heap.size, 1, none⟩ = some (.int .u64 0) := (blk_cell BK2.out 1).trans rfl
          have hz2 : w2.cell? ⟨w.heap.size, 2, none⟩ = some (.int .i64 0) := (blk_cell BK2.out 2).trans rfl
          have hf0 := blk_frozen BK2.out 0
          have hf1 := blk_frozen BK2.out 1
          have hf2 := blk_frozen BK2.out 2
          go_wp2
          refine bodyPost_ret (results_ct rfl _ _ w.heap.size 35 #[.string s8, .int .u64 u1, .int .i64 u2] (0, 0) _ rfl ?bk3 Try.underlying35 rfl (by kernel_rfl)) rfl ?_
          case bk3 => exact blk_put (cs := #[.string s8, .int .u64 u1, .int .i64 0]) (blk_put (cs := #[.string s8, .int .u64 0, .int .i64 0]) (blk_put (cs := #[.string (⟨#[]⟩ : ByteArray), .int .u64 0, .int .i64 0]) BK2.out 0 _ rfl) 1 _ rfl) 2 _ rfl
          exact ⟨rfl, below_set (below_set (below_set HB2.out (Nat.le_refl _)) (Nat.le_refl _)) (Nat.le_refl _)⟩
        · rw [if_neg h3] at h
          simp only [Option.some.injEq, Prod.mk.injEq] at h
          obtain ⟨rfl, rfl, rfl, rfl⟩ := h
          have b3 : (u3 != 0) = true := bne_iff_ne.2 h3
          have b4 : (u3 == 0) = false := beq_eq_false_iff_ne.2 h3
          clear h3
          go_enter Try.func25, Try.ntmps25
          go_wp2_with fail
          (with_reducible refine (codec_Fixed64.calls k A0 c0 l0 ((l0.length : Int) - 8) v t2 t3 _ (Kd.C_below HR.out HB.out) HC.out HV.out).mono ?_)
          rintro e w1 ⟨rfl, hd⟩
          have HB1 := Aside0.mk (below_step HB.out hd.below)
          have BK1 := Aside0.mk ((hd.below.block _ (blk_lt BK.out)).trans BK.out)
          clear hd
          go_wp2_with fail
          (with_reducible refine (ikey_Unpack.calls _ _ _ _ _ HU.out).mono ?_)
          rintro e w2 ⟨rfl, hd⟩
          have HB2 := Aside0.mk (below_step HB1.out hd.below)
          have BK2 := Aside0.mk ((hd.below.block _ (blk_lt BK1.out)).trans BK1.out)
          clear hd
          have hz0 : w2.cell? ⟨w.heap.size, 0, none⟩ = some (.string (⟨#[]⟩ : ByteArray)) := (blk_cell BK2.out 0).trans rfl
          have hz1 : w2.cell? ⟨w.heap.size, 1, none⟩ = some (.int .u64 0) := (blk_cell BK2.out 1).trans rfl
          have hz2 : w2.cell? ⟨w.heap.size, 2, none⟩ = some (.int .i64 0) := (blk_cell BK2.out 2).trans rfl
          have hf0 := blk_frozen BK2.out 0
          have hf1 := blk_frozen BK2.out 1
          have hf2 := blk_frozen BK2.out 2
          go_wp2
          refine bodyPost_ret (results_ct rfl _ _ w.heap.size 35 #[.string (⟨#[]⟩ : ByteArray), .int .u64 0, .int .i64 0] (0, 0) _ rfl ?bk4 Try.underlying35 rfl (by kernel_rfl)) rfl ?_
          case bk4 => exact blk_put (cs := #[.string (⟨#[]⟩ : ByteArray), .int .u64 0, .int .i64 0]) (blk_put (cs := #[.string (⟨#[]⟩ : ByteArray), .int .u64 0, .int .i64 0]) (blk_put (cs := #[.string (⟨#[]⟩ : ByteArray), .int .u64 0, .int .i64 0]) BK2.out 0 _ rfl) 1 _ rfl) 2 _ rfl
          exact ⟨rfl, below_set (below_set (below_set HB2.out (Nat.le_refl _)) (Nat.le_refl _)) (Nat.le_refl _)⟩
  · rw [if_neg hl] at h
    cases h


end Go.Proofs.Ytdoolmomkffdaaa.G
