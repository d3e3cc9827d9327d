/- Contracts typed by hand: Running: a sum that grows, by its pointer -/
import Derived.Test.YtnapjjjomodmeaaDoorProg
import Derived.Below
import Derived.Deep.Draws
import Derived.Deep.AppendLies
import Derived.Maps.AppendAt
import Derived.OwnWalk
import Derived.Laws.BytesArg
import Derived.Laws.MakeOwn
import Derived.Laws.OwnMore
import Derived.Deep.OwnRows
import Derived.Tactics
import Derived.Lib.ConvBytes
import Derived.Laws.Slices
import Derived.WalkKit
import Derived.KernelRfl
import Derived.RowKit3
import Derived.Deep.LoopGhost
import Derived.Deep.QuietTactic
import Derived.BigQuiet
import Derived.WideLaws
import Derived.Deep.DeepCutAuto
import Derived.Deep.CutBlock
import Derived.Deep.RegionHeld3
import Derived.Laws.Rows
import Derived.Lib.AppendStr
import Derived.ArgAppend
import Derived.Laws.IdiomCopy
import Derived.OrdersHeld
import Derived.Laws.BitsLemmas
import Derived.RowKit
import Derived.Test.YtnapjjjomodmeaaDoorWWords
import Derived.Test.YtnapjjjomodmeaaDoorWLast
import Derived.Test.YtnapjjjomodmeaaDoorWTab
import Derived.Test.YtnapjjjomodmeaaDoorWFour
import Derived.Test.YtnapjjjomodmeaaDoorWQPut
import Derived.Test.YtnapjjjomodmeaaDoorWApart
import Derived.Test.YtnapjjjomodmeaaDoorWArr
import Derived.Test.YtnapjjjomodmeaaDoorWZeros
import Derived.Test.YtnapjjjomodmeaaDoorWFoot
import Derived.Test.YtnapjjjomodmeaaDoorWKept
import Derived.Test.YtnapjjjomodmeaaDoorWShare
import Derived.Test.YtnapjjjomodmeaaDoorWN
import Derived.Test.YtnapjjjomodmeaaDoorWFootNe
import Derived.Test.YtnapjjjomodmeaaDoorWAt
import Derived.Test.YtnapjjjomodmeaaDoorWEqStruct
import Derived.Test.YtnapjjjomodmeaaDoorWRepsOne
import Derived.Test.YtnapjjjomodmeaaDoorWInv
import Derived.Test.YtnapjjjomodmeaaDoorWInvWords
import Derived.Test.YtnapjjjomodmeaaDoorWGuard
import Derived.Test.YtnapjjjomodmeaaDoorWNEv
import Derived.Test.YtnapjjjomodmeaaDoorWMore
import Derived.Test.YtnapjjjomodmeaaDoorManArr02d
import Derived.Test.YtnapjjjomodmeaaDoorLawCheckPure
import Derived.Test.YtnapjjjomodmeaaDoorGx21
import Derived.Test.YtnapjjjomodmeaaDoorGx3
import Derived.Test.YtnapjjjomodmeaaDoorGx25
import Derived.Test.YtnapjjjomodmeaaDoorGx4
import Derived.Test.YtnapjjjomodmeaaDoorGx28
namespace Go.Proofs.YtnapjjjomodmeaaDoor.G
open Go.RowKit Go.Proofs.YtnapjjjomodmeaaDoorW.PrintWords Go.Proofs.YtnapjjjomodmeaaDoorW.PrintLast Go.Proofs.YtnapjjjomodmeaaDoorW.PrintMore
attribute [local go_sem] max2_int min2_int max_two min_two max_three min_three max_four min_four
set_option linter.unusedVariables false
set_option linter.unusedSimpArgs false

/-! Running: a sum that grows, by its pointer -/
structure RunAt (w : World) (b : Nat) (s n : Int) : Prop where
  heap : w.heap[b]? = some (.cells #[.bool true, .int .u32 s, .int .i64 n] 52 (0, 0))
theorem RunAt.lt {w : World} {b : Nat} {s n : Int} (h : RunAt w b s n) : b < w.heap.size := (Array.getElem?_eq_some_iff.1 h.heap).1
theorem RunAt.c0 {w : World} {b : Nat} {s n : Int} (h : RunAt w b s n) : w.cell? ⟨b, 0, none⟩ = some (.bool true) := by rw [cell_of_row w b 0 _ _ _ h.heap]; rfl
theorem RunAt.c1 {w : World} {b : Nat} {s n : Int} (h : RunAt w b s n) : w.cell? ⟨b, 1, none⟩ = some (.int .u32 s) := by rw [cell_of_row w b 1 _ _ _ h.heap]; rfl
theorem RunAt.c2 {w : World} {b : Nat} {s n : Int} (h : RunAt w b s n) : w.cell? ⟨b, 2, none⟩ = some (.int .i64 n) := by rw [cell_of_row w b 2 _ _ _ h.heap]; rfl
theorem RunAt.fr {w : World} {b : Nat} {s n : Int} (h : RunAt w b s n) (i : Nat) : w.frozen? ⟨b, i, none⟩ = false := blk_frozen h.heap _
theorem RunAt.below {w w1 : World} {b : Nat} {s n : Int} (h : RunAt w b s n) (hb : Below w.heap.size w w1) : RunAt w1 b s n := ⟨(hb.block b h.lt).trans h.heap⟩
theorem RunAt.drew {w : World} {b : Nat} {s n : Int} (h : RunAt w b s n) : RunAt w.drew b s n := ⟨h.heap⟩
theorem RunAt.set1 {w : World} {b : Nat} {s n : Int} (h : RunAt w b s n) (s' : Int) : RunAt (w.setCell ⟨b, 1, none⟩ (.int .u32 s')) b s' n := ⟨by rw [Lib.heap_setCell_same h.heap]; rfl⟩
theorem RunAt.set2 {w : World} {b : Nat} {s n : Int} (h : RunAt w b s n) (n' : Int) : RunAt (w.setCell ⟨b, 2, none⟩ (.int .i64 n')) b s n' := ⟨by rw [Lib.heap_setCell_same h.heap]; rfl⟩
theorem RunAt.other {w : World} {b b' : Nat} {s n : Int} (h : RunAt w b s n) (hne : b ≠ b') (i : Nat) (v : Value) : RunAt (w.setCell ⟨b', i, none⟩ v) b s n := ⟨(Below.heap_setCell _ _ _ _ hne).trans h.heap⟩
set_option maxHeartbeats 2000000 in
theorem new_calls (w : World) : Calls Tryd.prog 21 #[] w fun e w' => e = .returned (.pointer (some ⟨w.heap.size, 0, none⟩)) ∧ RunAt w' w.heap.size 0 0 ∧ Below w.heap.size w w' := by
  have HR := Aside0.mk (show RunAt (w.alloc (.cells #[.bool true, .int .u32 0, .int .i64 0] 52)) w.heap.size 0 0 from ⟨by show (w.heap.push _)[w.heap.size]? = _; simp⟩)
  have HB := Aside0.mk (below_alloc (Below.refl w.heap.size w) (.cells #[.bool true, .int .u32 0, .int .i64 0] 52))
  have hu := Tryd.underlying52
  go_enter Tryd.func21, Tryd.ntmps21
  go_wp2
  go_ret
  exact ⟨rfl, HR.out, HB.out⟩
set_option maxHeartbeats 2000000 in
theorem room_calls (b : Nat) (s n a : Int) (w : World) (h : RunAt w b s n) (h0 : 0 ≤ n) (h1 : 0 ≤ a) (h2 : a + n ≤ 9007199254740992) : Calls Tryd.prog 31 #[.pointer (some ⟨b, 0, none⟩), .int .i64 a] w fun e w' => e = .returned (.int .i64 0) ∧ w' = w := by
  have c0 := h.c0
  have c2 := h.c2
  have hu := Tryd.underlying52
  have ew : wrap64 (9007199254740992 - n) = 9007199254740992 - n := wr _ (by omega) (by omega)
  have b1 : decide (9007199254740992 - n < a) = false := decide_eq_false (by omega)
  clear h
  go_enter Tryd.func31, Tryd.ntmps31
  go_wp2
  go_ret
  exact ⟨rfl, rfl⟩
set_option maxHeartbeats 2000000 in
theorem sum_calls (b : Nat) (s n : Int) (w : World) (h : RunAt w b s n) : Calls Tryd.prog 26 #[.pointer (some ⟨b, 0, none⟩)] w fun e w' => e = .returned (.int .u32 s) ∧ w' = w := by
  have c0 := h.c0
  have c1 := h.c1
  have hu := Tryd.underlying52
  clear h
  go_enter Tryd.func26, Tryd.ntmps26
  go_wp2
  go_ret
  exact ⟨rfl, rfl⟩
set_option maxHeartbeats 2000000 in
theorem len_calls (b : Nat) (s n : Int) (w : World) (h : RunAt w b s n) : Calls Tryd.prog 27 #[.pointer (some ⟨b, 0, none⟩)] w fun e w' => e = .returned (.int .i64 n) ∧ w' = w := by
  have c2 := h.c2
  have hu := Tryd.underlying52
  clear h
  go_enter Tryd.func27, Tryd.ntmps27
  go_wp2
  go_ret
  exact ⟨rfl, rfl⟩
/-- nothing that was there is another, but for one block -/
structure Touch (b : Nat) (w w' : World) : Prop where
  os : w'.os = w.os
  tape : w'.tape = w.tape
  output : w'.output = w.output
  size : w.heap.size ≤ w'.heap.size
  block : ∀ k, k < w.heap.size → k ≠ b → w'.heap[k]? = w.heap[k]?
theorem Touch.of_below {b : Nat} {w w' : World} (h : Below w.heap.size w w') : Touch b w w' := ⟨h.os, h.tape, h.output, h.size, fun k hk _ => h.block k hk⟩
theorem Touch.set {b : Nat} {w w' : World} (h : Touch b w w') (i : Nat) (v : Value) : Touch b w (w'.setCell ⟨b, i, none⟩ v) :=
  ⟨h.os, h.tape, h.output, by simpa [World.setCell] using h.size, fun k hk hne => (Below.heap_setCell _ _ _ _ hne).trans (h.block k hk hne)⟩
theorem Touch.drew {b : Nat} {w w' : World} (h : Touch b w w') : Touch b w w'.drew := ⟨h.os, h.tape, h.output, h.size, h.block⟩
theorem RunAt.touch {w w1 : World} {b b' : Nat} {s n : Int} (h : RunAt w b s n) (hne : b ≠ b') (ht : Touch b' w w1) : RunAt w1 b s n := ⟨(ht.block b h.lt hne).trans h.heap⟩
theorem Touch.below {b : Nat} {w0 w w' : World} (h : Touch b w w') (hb : Below w0.heap.size w0 w) (hg : w0.heap.size ≤ b) : Below w0.heap.size w0 w' :=
  ⟨h.os.trans hb.os, h.tape.trans hb.tape, h.output.trans hb.output, Nat.le_trans hb.size h.size, fun k hk => (h.block k (Nat.lt_of_lt_of_le hk hb.size) (by omega)).trans (hb.block k hk)⟩
theorem wri (x : Int) (h0 : -9223372036854775808 ≤ x) (h1 : x ≤ 9223372036854775807) : IntKind.i64.wrap x = x := by
  rw [IntKind.wrap_i64]
  omega
theorem ext_calls (k : Nat) (s : Int) (A : Option Addr) (c m : Nat) (l : List Int) (r : Int) (w : World) (hm : l.length = m) (hr : Kd.C (Kd.int .u8) w A m l) (hc : m ≤ c) (hf : check_Extend.f k s l = some r) (hTab : TabAt w) :
    Calls Tryd.prog 13 #[.int .u32 s, .slice A m c] w fun e w' => e = .returned (.int .u32 r) ∧ Below w.heap.size w w' := by
  subst hm
  exact (check_Extend.calls k s A c l r w hr hc hf hTab).mono fun e w' h => ⟨h.1, h.2.below⟩
set_option maxHeartbeats 4000000 in
set_option maxRecDepth 100000 in
theorem add_calls (k b : Nat) (s n : Int) (A : Option Addr) (c : Nat) (l : List Int) (r : Int) (w : World) (h : RunAt w b s n) (hr : Kd.C (Kd.int .u8) w A l.length l) (hc : l.length ≤ c) (hf : check_Extend.f k s l = some r) (hTab : TabAt w)
    (h0 : 0 ≤ n) (h2 : (l.length : Int) + n ≤ 9007199254740992) :
    Calls Tryd.prog 22 #[.pointer (some ⟨b, 0, none⟩), .slice A l.length c] w fun e w' => e = .returned (.int .i64 0) ∧ RunAt w' b r (n + (l.length : Int)) ∧ Touch b w w' := by
  have HR := Aside0.mk h
  have HC := Aside0.mk hr
  have HF := Aside0.mk hf
  have HT := Aside0.mk hTab
  have HCL := Aside0.mk hc
  have c1 := h.c1
  have c2 := h.c2
  have hu := Tryd.underlying52
  have H0 := Aside0.mk h0
  have H2 := Aside0.mk h2
  have EW := Aside0.mk (wri (n + (l.length : Int)) (by omega) (by omega))
  clear h hr hf hTab hc h0 h2
  generalize hm : l.length = m at *
  have HM := Aside0.mk hm
  clear hm
  go_enter Tryd.func22, Tryd.ntmps22
  go_wp2_with (first | (go_at_call 31; (with_reducible refine (room_calls b s n (m : Int) _ HR.out H0.out (Int.natCast_nonneg _) H2.out).mono ?_); rintro e w1 ⟨rfl, rfl⟩))
  go_region_with (first | (go_at_call 13; (with_reducible refine (ext_calls k s A c m l r _ HM.out (Kd.C_drew HC.out) HCL.out HF.out HT.out.drew).mono ?_); rintro e w4 ⟨rfl, hd⟩; have HR4 := Aside0.mk (HR.out.drew.below hd); have HT4 := Aside0.mk (Touch.of_below (b := b) (below_step (below_drew (Below.refl _ _)) hd)); have d1 := HR4.out.c1; have d2 := HR4.out.c2; have f1 := HR4.out.fr 1; have f2 := HR4.out.fr 2; clear hd))
  all_goals (go_wp2; go_ret; rw [EW.out])
  all_goals (first | exact ⟨rfl, (HR4.out.set1 _).set2 _, (HT4.out.set 1 _).set 2 _⟩ | exact ⟨rfl, (HR4.out.set2 _).set1 _, (HT4.out.set 2 _).set 1 _⟩)
theorem exttext_calls (k : Nat) (s : Int) (l : ByteArray) (r : Int) (w : World) (hf : check_extendText.f k s l = some r) (hTab : TabAt w) :
    Calls Tryd.prog 32 #[.int .u32 s, .string l] w fun e w' => e = .returned (.int .u32 r) ∧ Below w.heap.size w w' :=
  (check_extendText.calls k s l r w hf hTab).mono fun e w' h => ⟨h.1, h.2.below⟩
set_option maxHeartbeats 4000000 in
set_option maxRecDepth 100000 in
theorem addtext_calls (k b : Nat) (s n : Int) (l : ByteArray) (r : Int) (w : World) (h : RunAt w b s n) (hf : check_extendText.f k s l = some r) (hTab : TabAt w)
    (h0 : 0 ≤ n) (h2 : (l.size : Int) + n ≤ 9007199254740992) :
    Calls Tryd.prog 23 #[.pointer (some ⟨b, 0, none⟩), .string l] w fun e w' => e = .returned (.int .i64 0) ∧ RunAt w' b r (n + (l.size : Int)) ∧ Touch b w w' := by
  have HR := Aside0.mk h
  have HF := Aside0.mk hf
  have HT := Aside0.mk hTab
  have c1 := h.c1
  have c2 := h.c2
  have hu := Tryd.underlying52
  have H0 := Aside0.mk h0
  have H2 := Aside0.mk h2
  have EW := Aside0.mk (wri (n + (l.size : Int)) (by omega) (by omega))
  clear h hf hTab h0 h2
  go_enter Tryd.func23, Tryd.ntmps23
  go_wp2_with (first | (go_at_call 31; (with_reducible refine (room_calls b s n (l.size : Int) _ HR.out H0.out (Int.natCast_nonneg _) H2.out).mono ?_); rintro e w1 ⟨rfl, rfl⟩))
  go_region_with (first | (go_at_call 32; (with_reducible refine (exttext_calls k s l r _ HF.out HT.out.drew).mono ?_); rintro e w4 ⟨rfl, hd⟩; have HR4 := Aside0.mk (HR.out.drew.below hd); have HT4 := Aside0.mk (Touch.of_below (b := b) (below_step (below_drew (Below.refl _ _)) hd)); have d1 := HR4.out.c1; have d2 := HR4.out.c2; have f1 := HR4.out.fr 1; have f2 := HR4.out.fr 2; clear hd))
  all_goals (go_wp2; go_ret; rw [EW.out])
  all_goals (first | exact ⟨rfl, (HR4.out.set1 _).set2 _, (HT4.out.set 1 _).set 2 _⟩ | exact ⟨rfl, (HR4.out.set2 _).set1 _, (HT4.out.set 2 _).set 1 _⟩)

end Go.Proofs.YtnapjjjomodmeaaDoor.G
