/- Contracts of functions and plain laws, several texts of the session put together by its program. -/
import Derived.Test.YtdoolmomkffdaaaProg
import Derived.Below
import Derived.Deep.Draws
import Derived.Deep.AppendLies
import Derived.Maps.AppendAt
import Derived.OwnWalk
import Derived.Laws.BytesArg
import Derived.Laws.MakeOwn
import Derived.Laws.OwnMore
import Derived.Deep.OwnRows
import Derived.Tactics
import Derived.Lib.ConvBytes
import Derived.Laws.Slices
import Derived.WalkKit
import Derived.KernelRfl
import Derived.RowKit3
import Derived.Deep.LoopGhost
import Derived.Deep.QuietTactic
import Derived.BigQuiet
import Derived.WideLaws
import Derived.Deep.DeepCutAuto
import Derived.Deep.CutBlock
import Derived.Deep.RegionHeld3
import Derived.Laws.Rows
import Derived.Lib.AppendStr
import Derived.ArgAppend
import Derived.Laws.IdiomCopy
import Derived.OrdersHeld
import Derived.Laws.BitsLemmas
import Derived.RowKit
import Derived.Test.YtdoolmomkffdaaaWWords
import Derived.Test.YtdoolmomkffdaaaWLast
import Derived.Test.YtdoolmomkffdaaaWTab
import Derived.Test.YtdoolmomkffdaaaWFour
import Derived.Test.YtdoolmomkffdaaaWQPut
import Derived.Test.YtdoolmomkffdaaaWApart
import Derived.Test.YtdoolmomkffdaaaWArr
import Derived.Test.YtdoolmomkffdaaaWZeros
import Derived.Test.YtdoolmomkffdaaaWFoot
import Derived.Test.YtdoolmomkffdaaaWKept
import Derived.Test.YtdoolmomkffdaaaWShare
import Derived.Test.YtdoolmomkffdaaaWN
import Derived.Test.YtdoolmomkffdaaaWFootNe
import Derived.Test.YtdoolmomkffdaaaWAt
import Derived.Test.YtdoolmomkffdaaaWEqStruct
import Derived.Test.YtdoolmomkffdaaaWRepsOne
import Derived.Test.YtdoolmomkffdaaaWInv
import Derived.Test.YtdoolmomkffdaaaWInvWords
import Derived.Test.YtdoolmomkffdaaaWGuard
import Derived.Test.YtdoolmomkffdaaaWNEv
import Derived.Test.YtdoolmomkffdaaaWMore
import Derived.Test.YtdoolmomkffdaaaQ0
import Derived.Lib.Strings
import Derived.Deep.RegionLaw
import Derived.Test.YtdoolmomkffdaaaRows
import Derived.Deep.Slices
import Derived.Deep.Fields
import Derived.ChangeSame
import Derived.Deep.Strs
import Derived.Lib.SmallJoins

/- Contracts typed by hand: the order of internal keys: what Compare comes to -/
namespace Go.Proofs.Ytdoolmomkffdaaa.G
open Go.RowKit Go.Proofs.YtdoolmomkffdaaaW.PrintWords Go.Proofs.YtdoolmomkffdaaaW.PrintLast Go.Proofs.YtdoolmomkffdaaaW.PrintMore
attribute [local go_sem] max2_int min2_int max_two min_two max_three min_three max_four min_four
set_option linter.unusedVariables false
set_option linter.unusedSimpArgs false

/-! the order of internal keys: what Compare comes to -/
theorem or_int (k : Nat) (x y z : Int) : cmp_Or_int.f (k + 4) [x, y, z] = some (or3 x y z) := by
  have w1 : wrap64 (0 + 1) = 1 := by unfold wrap64; omega
  have w2 : wrap64 (1 + 1) = 2 := by unfold wrap64; omega
  have w3 : wrap64 (2 + 1) = 3 := by unfold wrap64; omega
  have hl : ((([x, y, z] : List Int).length : Nat) : Int) = 3 := rfl
  have r0 : rd [x, y, z] 0 = x := rfl
  have r1 : rd [x, y, z] 1 = y := rfl
  have r2 : rd [x, y, z] 2 = z := rfl
  unfold cmp_Or_int.f or3
  rw [hl, cmp_Or_int.l0, hl, if_pos (by omega), if_pos (by omega), if_pos (by omega), r0]
  by_cases hx : x = 0
  · rw [if_pos hx, if_pos hx, w1, cmp_Or_int.l0, hl, if_pos (by omega), if_pos (by omega), if_pos (by omega), r1]
    by_cases hy : y = 0
    · rw [if_pos hy, if_pos hy, w2, cmp_Or_int.l0, hl, if_pos (by omega), if_pos (by omega), if_pos (by omega), r2]
      by_cases hz : z = 0
      · rw [if_pos hz, w3, cmp_Or_int.l0, if_neg (by omega), hz]
      · rw [if_neg hz]
    · rw [if_neg hy, if_neg hy]
  · rw [if_neg hx, if_neg hx]
theorem cmp_u64 (x y : Int) : cmp_Compare_uint64.f x y = some (ic x y) := by
  unfold cmp_Compare_uint64.f cmp_isNaN_uint64.f ic
  simp only [bne_self_eq_false, Option.bind_some, Bool.false_eq_true, if_false, gt_iff_lt]
  split
  · rfl
  · split <;> rfl
theorem cmp_i64 (x y : Int) : cmp_Compare_int.f x y = some (ic x y) := by
  unfold cmp_Compare_int.f cmp_isNaN_int.f ic
  simp only [bne_self_eq_false, Option.bind_some, Bool.false_eq_true, if_false, gt_iff_lt]
  split
  · rfl
  · split <;> rfl
theorem compare_eq (k : Nat) (a : ByteArray) (s t : Int) (b : ByteArray) (u v : Int) : ikey_Compare.f (k + 4) a s t b u v = some (kc a.toList s t b.toList u v) := by
  unfold ikey_Compare.f strings_Compare.f
  rw [Option.bind_some, cmp_u64, Option.bind_some, cmp_i64, Option.bind_some, or_int, Option.bind_some]
  unfold kc cb
  rw [Lib.toList_data, Lib.toList_data]
theorem ic_ref (t v : Int) : (if t = v then some 0 else (if t > v then some (-1) else some 1)) = some (ic v t) := by
  by_cases h : t = v
  · rw [if_pos h, (ic_iff v t).2 h.symm]
  · rw [if_neg h]
    unfold ic
    by_cases h2 : t > v
    · rw [if_pos h2, if_pos h2]
    · rw [if_neg h2, if_neg h2, if_pos (by omega)]
theorem kc_ref (a b : List UInt8) (s t u v : Int) : (if a = b then (if s = u then (if t = v then some 0 else (if t > v then some (-1) else some 1)) else (if s > u then some (-1) else some 1)) else (if Op.bytesLess a b = true then some (-1) else some 1)) = some (kc a s t b u v) := by
  unfold kc or3
  by_cases h : a = b
  · subst h
    rw [if_pos rfl, cb_self, if_pos rfl, ic_ref]
    by_cases h2 : s = u
    · subst h2
      rw [if_pos rfl, (ic_iff s s).2 rfl, if_pos rfl]
    · rw [if_neg h2, if_neg (fun e => h2 ((ic_iff u s).1 e).symm)]
      have := ic_ref s u
      rw [if_neg h2] at this
      exact this
  · have h0 : ¬ cb a b = 0 := fun e => h (cb_eq _ _ e)
    rw [if_neg h, if_neg h0, less_cb]
    rcases cb_rng a b with e | e | e
    · rw [e]; rfl
    · exact absurd e h0
    · rw [e]; rfl
theorem refcompare_eq (a : ByteArray) (s t : Int) (b : ByteArray) (u v : Int) : moraineref03_Compare.f a s t b u v = some (kc a.toList s t b.toList u v) := by
  unfold moraineref03_Compare.f
  exact kc_ref _ _ _ _ _ _
theorem isKind_eq (a : Int) : ikey_isKind.f a = moraineref03_kind.f a := by
  unfold ikey_isKind.f moraineref03_kind.f
  split
  · rfl
  · split
    · rfl
    · split
      · rfl
      · split
        · rename_i h; rw [h]; rfl
        · rename_i h; rw [beq_eq_false_iff_ne.2 h]
theorem toList_nil (s : ByteArray) : s.toList = [] ↔ ¬ (s.size : Int) ≥ 1 := by
  rw [Lib.toList_data, ← List.length_eq_zero_iff, data_length]
  omega
theorem valid_eq (a : ByteArray) (s t : Int) : ikey_Valid.f a s t = moraineref03_Valid.f a s t := by
  unfold ikey_Valid.f moraineref03_Valid.f
  by_cases h : a.toList = []
  · rw [if_pos h, if_neg ((toList_nil a).1 h)]
  · rw [if_neg h, if_pos (show (a.size : Int) ≥ 1 from Decidable.of_not_not (mt (toList_nil a).2 h)), isKind_eq]
theorem isKind_some (a : Int) : ikey_isKind.f a = some (decide (a = 0 ∨ a = 1 ∨ a = 2 ∨ a = 255)) := by
  unfold ikey_isKind.f
  split
  · simp [*]
  · split
    · simp [*]
    · split
      · simp [*]
      · split
        · simp [*]
        · simp [*]
def validOf (a : ByteArray) (s t : Int) : Bool := decide (1 ≤ a.size ∧ a.size ≤ 1024 ∧ s ≤ 72057594037927935 ∧ (t = 0 ∨ t = 1 ∨ t = 2 ∨ t = 255))
theorem valid_some (a : ByteArray) (s t : Int) : ikey_Valid.f a s t = some (validOf a s t) := by
  unfold ikey_Valid.f validOf
  rw [isKind_some, Option.bind_some]
  by_cases h : a.toList = []
  · have := (toList_nil a).1 h
    rw [if_pos h, decide_eq_false (by omega)]
  · have := mt (toList_nil a).2 h
    rw [if_neg h]
    by_cases h1 : (a.size : Int) ≤ 1024
    · rw [if_pos h1]
      by_cases h2 : s ≤ 72057594037927935
      · rw [if_pos h2]
        congr 1
        rw [Bool.eq_iff_iff]
        simp only [decide_eq_true_eq]
        omega
      · rw [if_neg h2, decide_eq_false (by omega)]
    · rw [if_neg h1, decide_eq_false (by omega)]
theorem open_ikey {w : World} {x : ByteArray × Int × Int} {cs : Array Value} (h : (Kd.pair Kd.string (Kd.pair (Kd.int .u64) (Kd.int .i64))).K w x cs.toList) : cs = #[.string x.1, .int .u64 x.2.1, .int .i64 x.2.2] := by
  obtain ⟨_, _, hcs, rfl, _, _, rfl, rfl, rfl⟩ := h
  apply Array.toList_inj.1
  simpa using hcs

end Go.Proofs.Ytdoolmomkffdaaa.G

/- Printed by the session's program over the kit's print, out of the translation: functions as plain Lean functions, and the proofs that the calls come to them. -/
namespace Go.Proofs.Ytdoolmomkffdaaa.G
open Go.RowKit Go.Proofs.YtdoolmomkffdaaaW.PrintWords Go.Proofs.YtdoolmomkffdaaaW.PrintLast Go.Proofs.YtdoolmomkffdaaaW.PrintMore
attribute [local go_sem] max2_int min2_int max_two min_two max_three min_three max_four min_four   -- for this text's walks alone
set_option linter.unusedVariables false
set_option linter.unusedSimpArgs false

/-! ### ikey_Pack: function 12 -/
def ikey_Pack.f (a0 : Int) (a1 : Int) : Option (Int × Int) := if a0 > 72057594037927935 then (some (0, 2)) else ((ikey_isKind.f a1).bind fun t176 => (if t176 = true then (some (Go.bits .or .u64 (IntKind.u64.wrap (a0 * 256)) (IntKind.u64.wrap (a1)), 0)) else (some (0, 2))))
set_option maxHeartbeats 8000000 in
set_option maxRecDepth 100000 in
theorem ikey_Pack.calls (a0 : Int) (a1 : Int) (r1 : Int) (r2 : Int) (w : World) (h : ikey_Pack.f a0 a1 = some (r1, r2)) :
    Calls Try.prog 12 #[.int .u64 a0, .int .i64 a1] w fun e w' => e = .returned (.tuple #[.int .u64 r1, .int .i64 r2]) ∧ Drawn0 w w' := by
  have H : (if a0 > 72057594037927935 then (some (0, 2)) else ((ikey_isKind.f a1).bind fun t176 => (if t176 = true then (some (Go.bits .or .u64 (IntKind.u64.wrap (a0 * 256)) (IntKind.u64.wrap (a1)), 0)) else (some (0, 2))))) = some (r1, r2) := h
  clear h
  by_cases c3 : a0 > 72057594037927935
  · rw [if_pos c3] at H
    have c3b0 : decide (72057594037927935 < a0) = true := decide_eq_true c3
    clear c3
    simp only [Option.some.injEq, Prod.mk.injEq] at H
    obtain ⟨rfl, rfl⟩ := H
    go_enter Try.func12, Try.ntmps12
    go_wp2
    go_ret2
    exact ⟨by first | rfl | (simp; done) | (simp [*]; done), by repeat (first | exact Drawn0.refl _ | apply Drawn0.step)⟩
  · rw [if_neg c3] at H
    have c3b0 : decide (72057594037927935 < a0) = false := decide_eq_false c3
    clear c3
    replace H := Option.bind_eq_some_iff.mp H
    obtain ⟨t176, A40, H⟩ := H
    replace H : (if t176 = true then (some (Go.bits .or .u64 (IntKind.u64.wrap (a0 * 256)) (IntKind.u64.wrap (a1)), 0)) else (some (0, 2))) = some (r1, r2) := H
    have A4 := Aside0.mk A40
    clear A40
    by_cases c5 : t176 = true
    · subst c5
      have H1 : (some (Go.bits .or .u64 (IntKind.u64.wrap (a0 * 256)) (IntKind.u64.wrap (a1)), 0)) = some (r1, r2) := by rw [if_pos rfl] at H; exact H
      clear H
      have H := H1
      clear H1
      simp only [Option.some.injEq, Prod.mk.injEq] at H
      obtain ⟨rfl, rfl⟩ := H
      go_enter Try.func12, Try.ntmps12
      go_wp2_with (first | (go_at_call 35; (with_reducible refine (ikey_isKind.calls a1 true _ A4.out).mono ?_); rintro e w' ⟨rfl, ⟨nd, rfl⟩⟩))
      go_ret2
      exact ⟨by first | rfl | (simp; done) | (simp [*]; done), by repeat (first | exact Drawn0.refl _ | apply Drawn0.step)⟩
    · replace c5 := Bool.eq_false_iff.mpr c5
      subst c5
      have H1 : (some (0, 2)) = some (r1, r2) := by rw [if_neg (show ¬ (false = true) by decide)] at H; exact H
      clear H
      have H := H1
      clear H1
      simp only [Option.some.injEq, Prod.mk.injEq] at H
      obtain ⟨rfl, rfl⟩ := H
      go_enter Try.func12, Try.ntmps12
      go_wp2_with (first | (go_at_call 35; (with_reducible refine (ikey_isKind.calls a1 false _ A4.out).mono ?_); rintro e w' ⟨rfl, ⟨nd, rfl⟩⟩))
      go_ret2
      exact ⟨by first | rfl | (simp; done) | (simp [*]; done), by repeat (first | exact Drawn0.refl _ | apply Drawn0.step)⟩

end Go.Proofs.Ytdoolmomkffdaaa.G

/- Contracts typed by hand: ikey.Encode: an internal key's bytes (a text as bytes, then codec.PutFixed64) -/
namespace Go.Proofs.Ytdoolmomkffdaaa.G
open Go.RowKit Go.Proofs.YtdoolmomkffdaaaW.PrintWords Go.Proofs.YtdoolmomkffdaaaW.PrintLast Go.Proofs.YtdoolmomkffdaaaW.PrintMore
attribute [local go_sem] max2_int min2_int max_two min_two max_three min_three max_four min_four
set_option linter.unusedVariables false
set_option linter.unusedSimpArgs false

/-! ikey.Encode: an internal key's bytes (a text as bytes, then codec.PutFixed64) -/
theorem bcell {W w1 : World} (hb : Below W.heap.size W w1) : (∀ b o, b < W.heap.size → w1.cell? ⟨b, o, none⟩ = W.cell? ⟨b, o, none⟩) ∧ (∀ b o, b < W.heap.size → w1.frozen? ⟨b, o, none⟩ = W.frozen? ⟨b, o, none⟩) :=
  ⟨fun b o h => hb.cell (p := ⟨b, o, none⟩) h, fun b o h => hb.frozen (p := ⟨b, o, none⟩) h⟩
def ikey_Encode.f (k : Nat) (a0 : ByteArray) (a1 a2 : Int) : Option (List Int × Int) := (ikey_Valid.f a0 a1 a2).bind fun b => if b = true then (if a0.size ≤ 9223372036854775807 then (ikey_Pack.f a1 a2).bind fun p => (codec_PutFixed64.f k (bytesOf a0) p.1).bind fun r => some (r, 0) else none) else some ([], 2)
theorem ikey_Encode.mono : ∀ a0 a1 a2 k, LeO (ikey_Encode.f k a0 a1 a2) (ikey_Encode.f (k + 1) a0 a1 a2) := by
  intro a0 a1 a2 k
  unfold ikey_Encode.f
  exact LeO.bind (LeO.refl _) fun _ => LeO.ite (LeO.ite (LeO.bind (LeO.refl _) fun _ => LeO.bind (codec_PutFixed64.mono _ _ _) fun _ => LeO.refl _) (LeO.refl _)) (LeO.refl _)
theorem put_bytes (k : Nat) (s : ByteArray) (v : Int) (r : List Int) (W : World) (c g : Nat) (hg : g = W.heap.size) (hs : s.size ≤ 9223372036854775807) (hc : s.size ≤ c) (h : codec_PutFixed64.f k (bytesOf s) v = some r) :
    Calls Try.prog 42 #[.slice (some ⟨g, 0, none⟩) s.size c, .int .u64 v] (Lib.bytesWorld W 5 s) fun e w' => ∃ v0_ : Value, e = .returned v0_ ∧ Kd.R (Kd.int .u8) 5 w' (Lib.bytesWorld W 5 s).heap.size (fun _ => True) v0_ r ∧ Below (Lib.bytesWorld W 5 s).heap.size (Lib.bytesWorld W 5 s) w' := by
  subst hg
  have hC : Kd.C (Kd.int .u8) (Lib.bytesWorld W 5 s) (some ⟨W.heap.size, 0, none⟩) (bytesOf s).length (bytesOf s) := by
    rw [bytesOf_length]
    exact Kd.C_of_reads (d := (0 : Int)) (h1 := fun _ => rfl) (bytes_reads W 5 s hs)
  have := codec_PutFixed64.calls k (some ⟨W.heap.size, 0, none⟩) c (bytesOf s) v r (Lib.bytesWorld W 5 s) hC (by rw [bytesOf_length]; exact hc) h
  rw [bytesOf_length] at this
  exact this
set_option maxHeartbeats 4000000 in
set_option maxRecDepth 100000 in
theorem ikey_Encode.calls (k : Nat) (a0_0 : ByteArray) (a0_1 : Int) (a0_2 : Int) (r1 : List Int) (r2 : Int) (w : World) (h : ikey_Encode.f k a0_0 a0_1 a0_2 = some (r1, r2)) :
    Calls Try.prog 23 #[.agg #[.string a0_0, .int .u64 a0_1, .int .i64 a0_2]] w fun e w' => ∃ v0_ : Value, e = .returned (.tuple #[v0_, .int .i64 r2]) ∧ Kd.R (Kd.int .u8) 5 w' w.heap.size (fun _ => True) v0_ r1 ∧ Below w.heap.size w w' := by
  have hu35 := Try.underlying35
  unfold ikey_Encode.f at h
  obtain ⟨b, hb, H⟩ := Option.bind_eq_some_iff.1 h
  have HV := Aside0.mk hb
  clear h hb
  cases b with
  | false =>
    rw [if_neg Bool.false_ne_true] at H
    simp only [Option.some.injEq, Prod.mk.injEq] at H
    obtain ⟨rfl, rfl⟩ := H
    go_enter Try.func23, Try.ntmps23
    go_wp2_with fail
    (with_reducible refine (ikey_Valid.calls _ _ _ false _ HV.out).mono ?_)
    rintro e w1 ⟨rfl, hb⟩
    have HB1 := Aside0.mk (below_step (below_alloc (Below.refl w.heap.size w) _) hb)
    clear hb
    go_wp2
    go_ret2
    exact ⟨_, rfl, Kd.R_nil _ _ _ _ _, HB1.out⟩
  | true =>
    rw [if_pos rfl] at H
    by_cases hs : a0_0.size ≤ 9223372036854775807
    · rw [if_pos hs] at H
      obtain ⟨p, hp, H2⟩ := Option.bind_eq_some_iff.1 H
      obtain ⟨r, hr, H3⟩ := Option.bind_eq_some_iff.1 H2
      simp only [Option.some.injEq, Prod.mk.injEq] at H3
      obtain ⟨rfl, rfl⟩ := H3
      obtain ⟨p1, p2⟩ := p
      have HP := Aside0.mk hp
      have HR := Aside0.mk (show codec_PutFixed64.f k (bytesOf a0_0) p1 = some r from hr)
      have HS := Aside0.mk hs
      clear H H2 hp hr hs
      have kb := fun W => print_bytes (P := Try.prog) 9 47 5 Try.underlying9 Try.underlying47 Try.underlying5 a0_0 W
      go_enter Try.func23, Try.ntmps23
      go_wp2_with fail
      (with_reducible refine (ikey_Valid.calls _ _ _ true _ HV.out).mono ?_)
      rintro e w1 ⟨rfl, hb⟩
      have HB1 := Aside0.mk (below_step (below_alloc (Below.refl w.heap.size w) _) hb)
      have hc := (bcell hb).1
      have hz : w.heap.size < w1.heap.size := by have := hb.size; simp at this; omega
      clear hb
      go_wp2_with fail
      (with_reducible refine (ikey_Pack.calls _ _ _ _ _ HP.out).mono ?_)
      rintro e w2 ⟨rfl, ⟨nd, rfl⟩⟩
      go_wp2_with fail
      (with_reducible refine (put_bytes k a0_0 p1 r (w1.drewN nd) _ w1.heap.size ?hg HS.out ?hc HR.out).mono ?_)
      case hg => rfl
      case hc => exact grownCap_ge _ _ _ _
      rintro e w3 ⟨v3, rfl, ho, hb⟩
      have HB3 := Aside0.mk (below_step (bytes_below (pw_below_drewN HB1.out nd) (by have := HB1.out.size; exact this) 5 a0_0) hb)
      have HO3 := Aside0.mk (Kd.R_lower ho (bytes_below (pw_below_drewN HB1.out nd) (by have := HB1.out.size; exact this) 5 a0_0).size)
      clear ho hb
      go_wp2
      go_ret2
      exact ⟨_, rfl, HO3.out, HB3.out⟩
    · rw [if_neg hs] at H
      cases H

end Go.Proofs.Ytdoolmomkffdaaa.G

/- Printed by the session's program over the kit's print, out of the translation: functions as plain Lean functions, and the proofs that the calls come to them. -/
namespace Go.Proofs.Ytdoolmomkffdaaa.G
open Go.RowKit Go.Proofs.YtdoolmomkffdaaaW.PrintWords Go.Proofs.YtdoolmomkffdaaaW.PrintLast Go.Proofs.YtdoolmomkffdaaaW.PrintMore
attribute [local go_sem] max2_int min2_int max_two min_two max_three min_three max_four min_four   -- for this text's walks alone
set_option linter.unusedVariables false
set_option linter.unusedSimpArgs false

/-! ### ikey_Unpack: function 14 -/
def ikey_Unpack.f (a0 : Int) : Option (Int × Int × Int) := (ikey_isKind.f (wrap64 (Go.bits .and .u64 a0 255))).bind fun t191 => (if t191 = true then (some (a0 / 256, wrap64 (Go.bits .and .u64 a0 255), 0)) else (some (0, 0, 30)))
set_option maxHeartbeats 8000000 in
set_option maxRecDepth 100000 in
theorem ikey_Unpack.calls (a0 : Int) (r1 : Int) (r2 : Int) (r3 : Int) (w : World) (h : ikey_Unpack.f a0 = some (r1, r2, r3)) :
    Calls Try.prog 14 #[.int .u64 a0] w fun e w' => e = .returned (.tuple #[.int .u64 r1, .int .i64 r2, .int .i64 r3]) ∧ Drawn0 w w' := by
  have H : ((ikey_isKind.f (wrap64 (Go.bits .and .u64 a0 255))).bind fun t191 => (if t191 = true then (some (a0 / 256, wrap64 (Go.bits .and .u64 a0 255), 0)) else (some (0, 0, 30)))) = some (r1, r2, r3) := h
  clear h
  replace H := Option.bind_eq_some_iff.mp H
  obtain ⟨t191, A20, H⟩ := H
  replace H : (if t191 = true then (some (a0 / 256, wrap64 (Go.bits .and .u64 a0 255), 0)) else (some (0, 0, 30))) = some (r1, r2, r3) := H
  have A2 := Aside0.mk A20
  clear A20
  by_cases c3 : t191 = true
  · subst c3
    have H1 : (some (a0 / 256, wrap64 (Go.bits .and .u64 a0 255), 0)) = some (r1, r2, r3) := by rw [if_pos rfl] at H; exact H
    clear H
    have H := H1
    clear H1
    simp only [Option.some.injEq, Prod.mk.injEq] at H
    obtain ⟨rfl, rfl, rfl⟩ := H
    go_enter Try.func14, Try.ntmps14
    go_wp2_with (first | ((with_reducible refine gate_callee (f := 35) rfl ?_); refine goesL_ (some 9) rfl rfl Try.func35 (by kernel_rfl) rfl #[.int .i64 (wrap64 (Go.bits .and .u64 a0 255))] rfl (by (try simp only [List.map_toArray, List.map_cons, List.map_nil]); first | done | rfl | (simp only [List.length_drop, List.length_take]; rfl)) ?_; (with_reducible refine (ikey_isKind.calls (wrap64 (Go.bits .and .u64 a0 255)) true _ A2.out).mono ?_); rintro e w' ⟨rfl, ⟨nd, rfl⟩⟩; refine ⟨_, rfl, ?_⟩))
    go_ret3
    exact ⟨by first | rfl | (simp; done) | (simp [*]; done), by repeat (first | exact Drawn0.refl _ | apply Drawn0.step)⟩
  · replace c3 := Bool.eq_false_iff.mpr c3
    subst c3
    have H1 : (some (0, 0, 30)) = some (r1, r2, r3) := by rw [if_neg (show ¬ (false = true) by decide)] at H; exact H
    clear H
    have H := H1
    clear H1
    simp only [Option.some.injEq, Prod.mk.injEq] at H
    obtain ⟨rfl, rfl, rfl⟩ := H
    go_enter Try.func14, Try.ntmps14
    go_wp2_with (first | ((with_reducible refine gate_callee (f := 35) rfl ?_); refine goesL_ (some 9) rfl rfl Try.func35 (by kernel_rfl) rfl #[.int .i64 (wrap64 (Go.bits .and .u64 a0 255))] rfl (by (try simp only [List.map_toArray, List.map_cons, List.map_nil]); first | done | rfl | (simp only [List.length_drop, List.length_take]; rfl)) ?_; (with_reducible refine (ikey_isKind.calls (wrap64 (Go.bits .and .u64 a0 255)) false _ A2.out).mono ?_); rintro e w' ⟨rfl, ⟨nd, rfl⟩⟩; refine ⟨_, rfl, ?_⟩))
    go_ret3
    exact ⟨by first | rfl | (simp; done) | (simp [*]; done), by repeat (first | exact Drawn0.refl _ | apply Drawn0.step)⟩

end Go.Proofs.Ytdoolmomkffdaaa.G

/- Contracts typed by hand: ikey.Decode: a key of bytes -/
namespace Go.Proofs.Ytdoolmomkffdaaa.G
open Go.RowKit Go.Proofs.YtdoolmomkffdaaaW.PrintWords Go.Proofs.YtdoolmomkffdaaaW.PrintLast Go.Proofs.YtdoolmomkffdaaaW.PrintMore
attribute [local go_sem] max2_int min2_int max_two min_two max_three min_three max_four min_four
set_option linter.unusedVariables false
set_option linter.unusedSimpArgs false

/-! ikey.Decode: a key of bytes -/

def ikey_Decode.f (k : Nat) (l0 : List Int) : Option (ByteArray × Int × Int × Int) := if (l0.length : Int) ≤ 281474976710656 then (if (l0.length : Int) < 9 then some ((⟨#[]⟩ : ByteArray), 0, 0, 30) else if (l0.length : Int) > 1032 then some ((⟨#[]⟩ : ByteArray), 0, 0, 30) else
  (codec_Fixed64.f k l0 ((l0.length : Int) - 8)).bind fun t => (ikey_Unpack.f t.1).bind fun u => if u.2.2 = 0 then some (strOfNums (l0.take (l0.length - 8)), u.1, u.2.1, 0) else some ((⟨#[]⟩ : ByteArray), 0, 0, u.2.2)) else none
theorem ikey_Decode.mono : ∀ l0 k, LeO (ikey_Decode.f k l0) (ikey_Decode.f (k + 1) l0) := by
  intro l0 k
  unfold ikey_Decode.f
  exact LeO.ite (LeO.ite (LeO.refl _) (LeO.ite (LeO.refl _) (LeO.bind (codec_Fixed64.mono _ _ _) fun _ => LeO.refl _))) (LeO.refl _)
set_option maxHeartbeats 4000000 in
set_option maxRecDepth 100000 in
theorem ikey_Decode.calls (k : Nat) (A0 : Option Addr) (c0 : Nat) (l0 : List Int) (r1 : ByteArray) (r2 : Int) (r3 : Int) (r4 : Int) (w : World) (hr0 : Kd.C (Kd.int .u8) w A0 l0.length l0) (hc0 : l0.length ≤ c0) (h : ikey_Decode.f k l0 = some (r1, r2, r3, r4)) :
    Calls Try.prog 25 #[.slice A0 l0.length c0] w fun e w' => e = .returned (.tuple #[.agg #[.string r1, .int .u64 r2, .int .i64 r3], .int .i64 r4]) ∧ Below w.heap.size w w' := by
  have hu := Try.underlying35
  unfold ikey_Decode.f at h
  by_cases hl : (l0.length : Int) ≤ 281474976710656
  · rw [if_pos hl] at h
    have HR := Aside0.mk hr0
    have HC := Aside0.mk hc0
    have HB := Aside0.mk (below_alloc (Below.refl w.heap.size w) (.cells #[.string (⟨#[]⟩ : ByteArray), .int .u64 0, .int .i64 0] 35))
    have hbk0 : (w.alloc (.cells #[.string (⟨#[]⟩ : ByteArray), .int .u64 0, .int .i64 0] 35)).heap[w.heap.size]? = some (.cells #[.string (⟨#[]⟩ : ByteArray), .int .u64 0, .int .i64 0] 35 (0, 0)) := by
      show (w.heap.push _)[w.heap.size]? = _
      simp
    have BK := Aside0.mk hbk0
    clear hr0 hc0 hbk0
    by_cases h1 : (l0.length : Int) < 9
    · rw [if_pos h1] at h
      simp only [Option.some.injEq, Prod.mk.injEq] at h
      obtain ⟨rfl, rfl, rfl, rfl⟩ := h
      have b1 : decide ((l0.length : Int) - 8 < 1) = true := decide_eq_true (by omega)
      go_enter Try.func25, Try.ntmps25
      go_wp2
      refine bodyPost_ret (results_ct rfl _ _ w.heap.size 35 #[.string (⟨#[]⟩ : ByteArray), .int .u64 0, .int .i64 0] (0, 0) _ rfl ?bk1 Try.underlying35 rfl (by kernel_rfl)) rfl ?_
      case bk1 => exact BK.out
      exact ⟨rfl, HB.out⟩
    · rw [if_neg h1] at h
      by_cases h2 : (l0.length : Int) > 1032
      · rw [if_pos h2] at h
        simp only [Option.some.injEq, Prod.mk.injEq] at h
        obtain ⟨rfl, rfl, rfl, rfl⟩ := h
        have b1 : decide ((l0.length : Int) - 8 < 1) = false := decide_eq_false (by omega)
        have b2 : decide (1024 < (l0.length : Int) - 8) = true := decide_eq_true (by omega)
        go_enter Try.func25, Try.ntmps25
        go_wp2
        refine bodyPost_ret (results_ct rfl _ _ w.heap.size 35 #[.string (⟨#[]⟩ : ByteArray), .int .u64 0, .int .i64 0] (0, 0) _ rfl ?bk2 Try.underlying35 rfl (by kernel_rfl)) rfl ?_
        case bk2 => exact BK.out
        exact ⟨rfl, HB.out⟩
      · rw [if_neg h2] at h
        obtain ⟨⟨v, t2, t3⟩, hv, h⟩ := Option.bind_eq_some_iff.1 h
        obtain ⟨⟨u1, u2, u3⟩, hu3, h⟩ := Option.bind_eq_some_iff.1 h
        simp only [] at h
        have HV := Aside0.mk hv
        have HU := Aside0.mk (show ikey_Unpack.f v = some (u1, u2, u3) from hu3)
        clear hv hu3
        have b1 : decide ((l0.length : Int) - 8 < 1) = false := decide_eq_false (by omega)
        have b2 : decide (1024 < (l0.length : Int) - 8) = false := decide_eq_false (by omega)
        have b5 : decide (0 ≤ (l0.length : Int) - 8) = true := decide_eq_true (by omega)
        have b6 : decide ((l0.length : Int) - 8 ≤ (l0.length : Int)) = true := decide_eq_true (by omega)
        obtain ⟨i0, hi0, _, hsz, _⟩ := info_parts (show (Try.prog.info? 5).map (fun i => (i.zero, i.size, i.bytes)) = some (some (.int .u8 0), 1, 1) by kernel_rfl)
        have hcut := cut_to (P := Try.prog) 47 5 .i64 Try.underlying47 hi0 A0 l0.length c0 ((l0.length : Int) - 8) (by omega) (by omega) HC.out
        have hcv := fun W (q : Kd.C (Kd.int .u8) W A0 l0.length l0) => Kd.C_string (P := Try.prog) (w := W) (A := A0) (c := c0) Try.underlying47 Try.underlying5 Try.underlying9 (Kd.C_take (m := l0.length - 8) q (by omega))
        have hjn : ((l0.length : Int) - 8).toNat = l0.length - 8 := by omega
        rw [hjn] at hcut
        have htl : (l0.take (l0.length - 8)).length = l0.length - 8 := by rw [List.length_take]; omega
        obtain ⟨m8, hm8⟩ : ∃ m8, l0.length - 8 = m8 := ⟨_, rfl⟩
        obtain ⟨s8, hs8⟩ : ∃ s8, strOfNums (l0.take m8) = s8 := ⟨_, rfl⟩
        rw [hm8] at hcut hcv h htl
        have HTL := Aside0.mk htl
        rw [hs8] at hcv h
        have HCV := Aside0.mk hcv
        clear hi0 hsz hjn hm8 hs8 hcv htl
        by_cases h3 : u3 = 0
        · subst h3
          rw [if_pos rfl] at h
          simp only [Option.some.injEq, Prod.mk.injEq] at h
          obtain ⟨rfl, rfl, rfl, rfl⟩ := h
          go_enter Try.func25, Try.ntmps25
          go_wp2_with fail
          (with_reducible refine (codec_Fixed64.calls k A0 c0 l0 ((l0.length : Int) - 8) v t2 t3 _ (Kd.C_below HR.out HB.out) HC.out HV.out).mono ?_)
          rintro e w1 ⟨rfl, hd⟩
          have HB1 := Aside0.mk (below_step HB.out hd.below)
          have BK1 := Aside0.mk ((hd.below.block _ (blk_lt BK.out)).trans BK.out)
          have HR1 := Aside0.mk (Kd.C_below HR.out HB1.out)
          clear hd
          go_wp2_with fail
          (with_reducible refine (ikey_Unpack.calls _ _ _ _ _ HU.out).mono ?_)
          rintro e w2 ⟨rfl, hd⟩
          have HB2 := Aside0.mk (below_step HB1.out hd.below)
          have BK2 := Aside0.mk ((hd.below.block _ (blk_lt BK1.out)).trans BK1.out)
          have HR2 := Aside0.mk (Kd.C_below HR.out HB2.out)
          clear hd
          have hcw := HCV.out _ HR2.out
          rw [HTL.out] at hcw
          have hz0 : w2.cell? ⟨w.heap.size, 0, none⟩ = some (.string (⟨#[]⟩ : ByteArray)) := (blk_cell BK2.out 0).trans rfl
          have hz1 : w2.cell? ⟨w.heap.size, 1, none⟩ = some (.int .u64 0) := (blk_cell BK2.out 1).trans rfl
          have hz2 : w2.cell? ⟨w.heap.size, 2, none⟩ = some (.int .i64 0) := (blk_cell BK2.out 2).trans rfl
          have hf0 := blk_frozen BK2.out 0
          have hf1 := blk_frozen BK2.out 1
          have hf2 := blk_frozen BK2.out 2
          go_wp2
          refine bodyPost_ret (results_ct rfl _ _ w.heap.size 35 #[.string s8, .int .u64 u1, .int .i64 u2] (0, 0) _ rfl ?bk3 Try.underlying35 rfl (by kernel_rfl)) rfl ?_
          case bk3 => exact blk_put (cs := #[.string s8, .int .u64 u1, .int .i64 0]) (blk_put (cs := #[.string s8, .int .u64 0, .int .i64 0]) (blk_put (cs := #[.string (⟨#[]⟩ : ByteArray), .int .u64 0, .int .i64 0]) BK2.out 0 _ rfl) 1 _ rfl) 2 _ rfl
          exact ⟨rfl, below_set (below_set (below_set HB2.out (Nat.le_refl _)) (Nat.le_refl _)) (Nat.le_refl _)⟩
        · rw [if_neg h3] at h
          simp only [Option.some.injEq, Prod.mk.injEq] at h
          obtain ⟨rfl, rfl, rfl, rfl⟩ := h
          have b3 : (u3 != 0) = true := bne_iff_ne.2 h3
          have b4 : (u3 == 0) = false := beq_eq_false_iff_ne.2 h3
          clear h3
          go_enter Try.func25, Try.ntmps25
          go_wp2_with fail
          (with_reducible refine (codec_Fixed64.calls k A0 c0 l0 ((l0.length : Int) - 8) v t2 t3 _ (Kd.C_below HR.out HB.out) HC.out HV.out).mono ?_)
          rintro e w1 ⟨rfl, hd⟩
          have HB1 := Aside0.mk (below_step HB.out hd.below)
          have BK1 := Aside0.mk ((hd.below.block _ (blk_lt BK.out)).trans BK.out)
          clear hd
          go_wp2_with fail
          (with_reducible refine (ikey_Unpack.calls _ _ _ _ _ HU.out).mono ?_)
          rintro e w2 ⟨rfl, hd⟩
          have HB2 := Aside0.mk (below_step HB1.out hd.below)
          have BK2 := Aside0.mk ((hd.below.block _ (blk_lt BK1.out)).trans BK1.out)
          clear hd
          have hz0 : w2.cell? ⟨w.heap.size, 0, none⟩ = some (.string (⟨#[]⟩ : ByteArray)) := (blk_cell BK2.out 0).trans rfl
          have hz1 : w2.cell? ⟨w.heap.size, 1, none⟩ = some (.int .u64 0) := (blk_cell BK2.out 1).trans rfl
          have hz2 : w2.cell? ⟨w.heap.size, 2, none⟩ = some (.int .i64 0) := (blk_cell BK2.out 2).trans rfl
          have hf0 := blk_frozen BK2.out 0
          have hf1 := blk_frozen BK2.out 1
          have hf2 := blk_frozen BK2.out 2
          go_wp2
          refine bodyPost_ret (results_ct rfl _ _ w.heap.size 35 #[.string (⟨#[]⟩ : ByteArray), .int .u64 0, .int .i64 0] (0, 0) _ rfl ?bk4 Try.underlying35 rfl (by kernel_rfl)) rfl ?_
          case bk4 => exact blk_put (cs := #[.string (⟨#[]⟩ : ByteArray), .int .u64 0, .int .i64 0]) (blk_put (cs := #[.string (⟨#[]⟩ : ByteArray), .int .u64 0, .int .i64 0]) (blk_put (cs := #[.string (⟨#[]⟩ : ByteArray), .int .u64 0, .int .i64 0]) BK2.out 0 _ rfl) 1 _ rfl) 2 _ rfl
          exact ⟨rfl, below_set (below_set (below_set HB2.out (Nat.le_refl _)) (Nat.le_refl _)) (Nat.le_refl _)⟩
  · rw [if_neg hl] at h
    cases h


end Go.Proofs.Ytdoolmomkffdaaa.G

/- Contracts typed by hand: plain laws of an internal key's bytes: Pack, Unpack, Encode, Decode -/
namespace Go.Proofs.Ytdoolmomkffdaaa.G
open Go.RowKit Go.Proofs.YtdoolmomkffdaaaW.PrintWords Go.Proofs.YtdoolmomkffdaaaW.PrintLast Go.Proofs.YtdoolmomkffdaaaW.PrintMore
attribute [local go_sem] max2_int min2_int max_two min_two max_three min_three max_four min_four
set_option linter.unusedVariables false
set_option linter.unusedSimpArgs false

/-! plain laws of an internal key's bytes: Pack, Unpack, Encode, Decode -/
def kindB (t : Int) : Bool := decide (t = 0 ∨ t = 1 ∨ t = 2 ∨ t = 255)
theorem pack_bits (s t : Int) (s0 : 0 ≤ s) (s1 : s ≤ 72057594037927935) (t0 : 0 ≤ t) (t1 : t ≤ 255) : Go.bits .or .u64 (IntKind.u64.wrap (s * 256)) (IntKind.u64.wrap t) = s * 256 + t := by
  obtain ⟨s, rfl⟩ := Int.eq_ofNat_of_zero_le s0
  obtain ⟨t, rfl⟩ := Int.eq_ofNat_of_zero_le t0
  have e1 : IntKind.u64.wrap ((s : Int) * 256) = ((2 ^ 8 * s : Nat) : Int) := by rw [Go.IntKind.wrap_u64]; omega
  have e2 : IntKind.u64.wrap (t : Int) = (t : Int) := by rw [Go.IntKind.wrap_u64]; omega
  rw [e1, e2, u64_or_nat (2 ^ 8 * s) t (by omega) (by omega), ← Nat.two_pow_add_eq_or_of_lt (show t < 2 ^ 8 by omega) s]
  omega
theorem kindB_range {t : Int} (h : kindB t = true) : 0 ≤ t ∧ t ≤ 255 := by
  unfold kindB at h
  have := of_decide_eq_true h
  omega
theorem pack_eq (s t : Int) (s0 : 0 ≤ s) (s1 : s ≤ 72057594037927935) (ht : kindB t = true) : ikey_Pack.f s t = some (s * 256 + t, 0) := by
  have := kindB_range ht
  unfold ikey_Pack.f
  rw [if_neg (by omega), isKind_some, Option.bind_some]
  unfold kindB at ht
  rw [ht, if_pos rfl, pack_bits s t s0 s1 this.1 this.2]
theorem and255 (v : Int) (h0 : 0 ≤ v) (h1 : v < 18446744073709551616) : Go.bits .and .u64 v 255 = v % 256 := by
  obtain ⟨v, rfl⟩ := Int.eq_ofNat_of_zero_le h0
  have e := u64_and_nat v 255 (by omega) (by omega)
  rw [show ((255 : Nat) : Int) = 255 by rfl] at e
  have := Nat.and_two_pow_sub_one_eq_mod v 8
  rw [show 2 ^ 8 - 1 = 255 by rfl] at this
  rw [e, this]
  omega
theorem unpack_eq (v : Int) (h0 : 0 ≤ v) (h1 : v < 18446744073709551616) : ikey_Unpack.f v = some (if kindB (v % 256) = true then (v / 256, v % 256, 0) else (0, 0, 30)) := by
  unfold ikey_Unpack.f
  have w : wrap64 (v % 256) = v % 256 := by unfold wrap64; omega
  rw [and255 v h0 h1, w, isKind_some, Option.bind_some]
  unfold kindB
  split <;> rfl
theorem fixF_le : ∀ (l : List Int), Bytes l → fixF l.length (le l) = l
  | [], _ => rfl
  | b :: r, h => by
    have hb := h b List.mem_cons_self
    have ih := fixF_le r (fun x hx => h x (List.mem_cons_of_mem _ hx))
    have hl := (le_range r (fun x hx => h x (List.mem_cons_of_mem _ hx))).1
    simp only [List.length_cons, fixF, le]
    rw [show (b + 256 * le r) % 256 = b by omega, show (b + 256 * le r) / 256 = le r by omega, ih]
theorem bytesOf_nums (l : List Int) (hb : Bytes l) : bytesOf (strOfNums l) = l := by
  unfold bytesOf strOfNums
  simp only [List.map_map]
  conv => rhs; rw [← List.map_id l]
  apply List.map_congr_left
  intro x hx
  have := hb x hx
  simp
  omega
theorem nums_size (l : List Int) : (strOfNums l).size = l.length := by
  rw [← bytesOf_length]
  unfold bytesOf
  rw [List.length_map, strOfNums_data, List.length_map]
/-- what Decode answers -/
def decR (l : List Int) : ByteArray × Int × Int × Int := if l.length < 9 then (⟨#[]⟩, 0, 0, 30) else if l.length > 1032 then (⟨#[]⟩, 0, 0, 30) else
  if kindB (le (seg l (l.length - 8) 8) % 256) = true then (strOfNums (l.take (l.length - 8)), le (seg l (l.length - 8) 8) / 256, le (seg l (l.length - 8) 8) % 256, 0) else (⟨#[]⟩, 0, 0, 30)
theorem fixv_last (l : List Int) (h : 8 ≤ l.length) : fixv l ((l.length : Int) - 8) 8 = (le (seg l (l.length - 8) 8), (l.length : Int), 0) := by
  unfold fixv
  rw [if_neg (by omega), if_neg (by omega), if_neg (by omega), show ((l.length : Int) - 8).toNat = l.length - 8 by omega]
  congr 2
  omega
theorem decode_eq (k : Nat) (l : List Int) (hb : Bytes l) (hl : l.length ≤ 1099511627776) (hk : 10 ≤ k) : ikey_Decode.f k l = some (decR l) := by
  unfold ikey_Decode.f decR
  rw [if_pos (by omega)]
  by_cases h1 : l.length < 9
  · rw [if_pos (by omega), if_pos h1]
  · rw [if_neg (by omega), if_neg h1]
    by_cases h2 : l.length > 1032
    · rw [if_pos h2, if_pos (by omega)]
    · rw [if_neg h2, if_neg (by omega)]
      have hf := fixed_eq l ((l.length : Int) - 8) 8 k hb (by omega) (by omega) (by omega)
      rw [fixv_last l (by omega)] at hf
      have hs := le_small (seg l (l.length - 8) 8) (seg_bytes hb _ _) 8 (by unfold seg; rw [List.length_take]; omega) (by omega)
      have hf2 : codec_Fixed64.f k l ((l.length : Int) - 8) = some (le (seg l (l.length - 8) 8), (l.length : Int), 0) := by
        unfold codec_Fixed64.f
        exact (congrArg (fun o : Option (Int × Int × Int) => o.bind fun bt => some (bt.1, bt.2.1, bt.2.2)) hf).trans rfl
      rw [hf2, Option.bind_some, unpack_eq _ hs.1 hs.2, Option.bind_some]
      by_cases h3 : kindB (le (seg l (l.length - 8) 8) % 256) = true
      · rw [if_pos h3, if_pos h3, if_pos rfl]
      · rw [if_neg h3, if_neg h3, if_neg (by decide)]
/-- what Encode answers -/
def encK (a : ByteArray) (s t : Int) : List Int × Int := if validOf a s t = true then (bytesOf a ++ fixF 8 (s * 256 + t), 0) else ([], 2)
theorem validOf_parts {a : ByteArray} {s t : Int} (h : validOf a s t = true) : 1 ≤ a.size ∧ a.size ≤ 1024 ∧ s ≤ 72057594037927935 ∧ kindB t = true := by
  unfold validOf at h
  have := of_decide_eq_true h
  exact ⟨this.1, this.2.1, this.2.2.1, decide_eq_true this.2.2.2⟩
theorem validOf_mk {a : ByteArray} {s t : Int} (h1 : 1 ≤ a.size) (h2 : a.size ≤ 1024) (h3 : s ≤ 72057594037927935) (h4 : kindB t = true) : validOf a s t = true := by
  unfold kindB at h4
  unfold validOf
  exact decide_eq_true ⟨h1, h2, h3, of_decide_eq_true h4⟩
theorem encode_eq (k : Nat) (a : ByteArray) (s t : Int) (s0 : 0 ≤ s) (hk : 10 ≤ k) : ikey_Encode.f k a s t = some (encK a s t) := by
  unfold ikey_Encode.f encK
  rw [valid_some, Option.bind_some]
  by_cases h : validOf a s t = true
  · have hp := validOf_parts h
    rw [if_pos h, if_pos h, if_pos (by omega), pack_eq s t s0 hp.2.2.1 hp.2.2.2, Option.bind_some, PutFixed64_eq k _ _ hk (by rw [bytesOf_length]; omega), Option.bind_some]
  · rw [if_neg h, if_neg h]
/-- what was encoded is decoded as it was -/
theorem dec_enc (a : ByteArray) (s t : Int) (s0 : 0 ≤ s) (h : validOf a s t = true) : decR (bytesOf a ++ fixF 8 (s * 256 + t)) = (a, s, t, 0) := by
  have hp := validOf_parts h
  have hk := kindB_range hp.2.2.2
  have hl : (bytesOf a ++ fixF 8 (s * 256 + t)).length = a.size + 8 := by rw [List.length_append, bytesOf_length, fixF_len]
  have hs : seg (bytesOf a ++ fixF 8 (s * 256 + t)) a.size 8 = fixF 8 (s * 256 + t) := by
    have := seg_mid (bytesOf a) (fixF 8 (s * 256 + t)) []
    rw [List.append_nil, bytesOf_length, fixF_len] at this
    exact this
  have hv : le (fixF 8 (s * 256 + t)) = s * 256 + t := by
    rw [le_fixF 8 _ (by omega), show (256 : Int) ^ 8 = 18446744073709551616 by rfl]
    omega
  have ht : (bytesOf a ++ fixF 8 (s * 256 + t)).take a.size = bytesOf a := by
    have e : a.size = (bytesOf a).length := (bytesOf_length a).symm
    rw [e, List.take_left]
  unfold decR
  rw [hl, if_neg (by omega), if_neg (by omega), show a.size + 8 - 8 = a.size by omega, hs, hv, show (s * 256 + t) % 256 = t by omega, show (s * 256 + t) / 256 = s by omega, if_pos hp.2.2.2, ht, strOfNums_bytesOf]
/-- what was decoded is encoded as it was -/
theorem enc_dec (l : List Int) (hb : Bytes l) (h : (decR l).2.2.2 = 0) : encK (decR l).1 (decR l).2.1 (decR l).2.2.1 = (l, 0) := by
  unfold decR at h ⊢
  by_cases h1 : l.length < 9
  · rw [if_pos h1] at h; exact absurd h (by decide)
  · rw [if_neg h1] at h ⊢
    by_cases h2 : l.length > 1032
    · rw [if_pos h2] at h; exact absurd h (by decide)
    · rw [if_neg h2] at h ⊢
      by_cases h3 : kindB (le (seg l (l.length - 8) 8) % 256) = true
      · rw [if_pos h3]
        have hsl : (seg l (l.length - 8) 8).length = 8 := seg_len l _ _ (by omega)
        have hs := le_small (seg l (l.length - 8) 8) (seg_bytes hb _ _) 8 (by omega) (by omega)
        have hf := fixF_le (seg l (l.length - 8) 8) (seg_bytes hb _ _)
        rw [hsl] at hf
        have hv : validOf (strOfNums (l.take (l.length - 8))) (le (seg l (l.length - 8) 8) / 256) (le (seg l (l.length - 8) 8) % 256) = true := by
          have hz : (strOfNums (l.take (l.length - 8))).size = l.length - 8 := by rw [nums_size, List.length_take]; omega
          exact validOf_mk (by omega) (by omega) (by omega) h3
        simp only []
        unfold encK
        rw [if_pos hv, bytesOf_nums _ (hb.take _), show le (seg l (l.length - 8) 8) / 256 * 256 + le (seg l (l.length - 8) 8) % 256 = le (seg l (l.length - 8) 8) by omega, hf]
        congr 1
        unfold seg
        have : List.take 8 (List.drop (l.length - 8) l) = List.drop (l.length - 8) l := List.take_of_length_le (by rw [List.length_drop]; omega)
        rw [this, List.take_append_drop]
      · rw [if_neg h3] at h; exact absurd h (by decide)
theorem dec_bad (l : List Int) (h : (decR l).2.2.2 ≠ 0) : decR l = (⟨#[]⟩, 0, 0, 30) := by
  unfold decR at h ⊢
  split
  · rfl
  · split
    · rfl
    · split
      · rename_i h1 h2 h3
        rw [if_neg h1, if_neg h2, if_pos h3] at h
        exact absurd rfl h
      · rfl

end Go.Proofs.Ytdoolmomkffdaaa.G

/- Contracts typed by hand: moraineref03.Encode: an internal key's bytes, by append onto a conversion -/
namespace Go.Proofs.Ytdoolmomkffdaaa.G
open Go.RowKit Go.Proofs.YtdoolmomkffdaaaW.PrintWords Go.Proofs.YtdoolmomkffdaaaW.PrintLast Go.Proofs.YtdoolmomkffdaaaW.PrintMore
attribute [local go_sem] max2_int min2_int max_two min_two max_three min_three max_four min_four
set_option linter.unusedVariables false
set_option linter.unusedSimpArgs false

/-! moraineref03.Encode: an internal key's bytes, by append onto a conversion -/
set_option maxHeartbeats 4000000 in
set_option maxRecDepth 100000 in
theorem refEncode_calls (a : ByteArray) (s t : Int) (w : World) (s0 : 0 ≤ s) :
    Calls Try.prog 24 #[.agg #[.string a, .int .u64 s, .int .i64 t]] w fun e w' => ∃ (A : Option Addr) (c : Nat), e = .returned (.tuple #[.slice A (encK a s t).1.length c, .int .i64 (encK a s t).2]) ∧ (∀ W' : World, (∀ k, w.heap.size ≤ k → k < w'.heap.size → W'.heap[k]? = w'.heap[k]?) → Kd.C (Kd.int .u8) W' A (encK a s t).1.length (encK a s t).1) ∧ (encK a s t).1.length ≤ c ∧ Below w.heap.size w w' := by
  have hu35 := Try.underlying35
  have HV := Aside0.mk (show moraineref03_Valid.f a s t = some (validOf a s t) by rw [← valid_eq, valid_some])
  cases hv : validOf a s t with
  | false =>
    have he : encK a s t = ([], 2) := by unfold encK; rw [hv]; rfl
    rw [hv] at HV
    rw [he]
    clear he hv
    go_enter Try.func24, Try.ntmps24
    go_wp2_with fail
    (with_reducible refine (moraineref03_Valid.calls _ _ _ false _ HV.out).mono ?_)
    rintro e w1 ⟨rfl, hb⟩
    have HB1 := Aside0.mk (below_step (below_alloc (Below.refl w.heap.size w) _) hb)
    clear hb
    go_wp2
    go_ret2
    exact ⟨none, 0, rfl, fun _ _ => Kd.C_nil _ _, Nat.le_refl _, HB1.out⟩
  | true =>
    have hp := validOf_parts hv
    have hk := kindB_range hp.2.2.2
    have he : encK a s t = (bytesOf a ++ fixF 8 (s * 256 + t), 0) := by unfold encK; rw [if_pos hv]
    rw [hv] at HV
    rw [he]
    have e1 : IntKind.u64.wrap (s * 256) = s * 256 := by rw [Go.IntKind.wrap_u64]; omega
    have e2 : IntKind.u64.wrap t = t := by rw [Go.IntKind.wrap_u64]; omega
    have e3 : IntKind.u64.wrap (s * 256 + t) = s * 256 + t := by rw [Go.IntKind.wrap_u64]; omega
    have HF := Aside0.mk (RefFixed_eq 20 (s * 256 + t) 8 (by omega) (by omega) (by omega) (by omega))
    have HS := Aside0.mk (show a.size ≤ 1024 from hp.2.1)
    have hfl := fixF_len 8 (s * 256 + t)
    generalize hg : fixF 8 (s * 256 + t) = y at *
    clear hg he hv hp
    have HYL := Aside0.mk hfl
    obtain ⟨n, hn⟩ : ∃ n, s * 256 + t = n := ⟨_, rfl⟩
    rw [hn] at e3 HF
    have HF := Aside0.mk (show moraineref01_Fixed.f 20 n 8 = some y from HF.out)
    have kb := fun W => print_bytes (P := Try.prog) 9 47 5 Try.underlying9 Try.underlying47 Try.underlying5 a W
    clear hfl
    obtain ⟨z, hzz⟩ : ∃ z, bytesOf a ++ y = z := ⟨_, rfl⟩
    rw [hzz]
    have HZ := Aside0.mk hzz
    clear hzz
    go_enter Try.func24, Try.ntmps24
    go_wp2_with fail
    (with_reducible refine (moraineref03_Valid.calls _ _ _ true _ HV.out).mono ?_)
    rintro e w1 ⟨rfl, hb⟩
    have HB1 := Aside0.mk (below_step (below_alloc (Below.refl w.heap.size w) _) hb)
    have hc := (bcell hb).1
    have hz : w.heap.size < w1.heap.size := by have := hb.size; simp at this; omega
    clear hb
    have k0 : w1.cell? ⟨w.heap.size, 0, none⟩ = some (.string a) := by rw [hc _ _ (by simp)]; go_simp
    have k1 : w1.cell? ⟨w.heap.size, 1, none⟩ = some (.int .u64 s) := by rw [hc _ _ (by simp)]; go_simp
    have k2 : w1.cell? ⟨w.heap.size, 2, none⟩ = some (.int .i64 t) := by rw [hc _ _ (by simp)]; go_simp
    have hz1 : w.heap.size + 1 ≤ w1.heap.size := by omega
    clear hc
    have kB0 : (Lib.bytesWorld w1.drew 5 a).cell? ⟨w.heap.size, 0, none⟩ = some (.string a) := by rw [Lib.bytesWorld_old _ _ _ _ (by show w.heap.size < w1.heap.size; omega)]; exact k0
    have kB1 : (Lib.bytesWorld w1.drew 5 a).cell? ⟨w.heap.size, 1, none⟩ = some (.int .u64 s) := by rw [Lib.bytesWorld_old _ _ _ _ (by show w.heap.size < w1.heap.size; omega)]; exact k1
    have kB2 : (Lib.bytesWorld w1.drew 5 a).cell? ⟨w.heap.size, 2, none⟩ = some (.int .i64 t) := by rw [Lib.bytesWorld_old _ _ _ _ (by show w.heap.size < w1.heap.size; omega)]; exact k2
    have HBD := Aside0.mk (below_drew HB1.out)
    have HBC := Aside0.mk (bytes_below HBD.out (by show w.heap.size ≤ w1.heap.size; omega) 5 a)
    have HI := Aside0.mk (show (Try.prog.info? 5).map (fun i => (i.zero, i.size, i.bytes)) = some (some (.int .u8 0), 1, 1) by kernel_rfl)
    have HW1 := Aside0.mk (show w.heap.size ≤ w1.heap.size by omega)
    have hsz0 : (bytesOf a).length = a.size := bytesOf_length a
    have HSZ := Aside0.mk hsz0
    clear hsz0
    go_wp2_with fail
    go_region_law (first
      | (refine goes_ Try.func43 (by kernel_rfl) rfl #[.int .u64 n, .int .i64 8] (by rfl) rfl rfl (by simp only [List.map_toArray, List.map_cons, List.map_nil]; rfl) ?_; (with_reducible refine (moraineref01_Fixed.calls 20 n 8 y _ HF.out).mono ?_); rintro e w3 ⟨v3, rfl, ho, hb⟩; obtain ⟨A3, c3, rfl, hc3, hC3⟩ := Kd.R_reads ho; have HF3 := Aside0.mk hb; have HC3 := Aside0.mk hC3; refine ⟨_, rfl, ?_⟩; (try (have q0 := pw_cell_below hb k0)); clear ho hb hc3 hC3)
      | (have HFA : Aside0 (Below (Lib.bytesWorld w1.drew 5 a).heap.size (Lib.bytesWorld w1.drew 5 a) w3) := HF3; refine step_append_conv (w0 := w) ?hw (.tmp 9) (.tmp 17) 47 5 rfl Try.underlying47 HI.out w1.heap.size (grownCap w1.drew a.size 0 5) (bytesOf a) y (Lib.bytesCells w1.drew 5 a) ((Lib.bytesCells w1.drew 5 a).size, (Lib.bytesCells w1.drew 5 a).size + 1) ?blk ?fz ?cur ?take ?cap ?hs A3 c3 ?hx HC3.out ?hy ?hl ?hB ?hg ?_; (case hw => rfl); (case blk => exact (HF3.out.block _ (by rw [Lib.bytesWorld_size]; exact Nat.lt_succ_self _)).trans (conv_block w1.drew 5 a)); (case fz => exact Nat.le_refl _); (case cur => exact (conv_cells w1.drew 5 a).1); (case take => exact (conv_cells w1.drew 5 a).2); (case cap => rw [HSZ.out]; exact grownCap_ge _ _ _ _); (case hs => rw [HSZ.out]; rfl); (case hx => rfl); (case hy => have := HYL.out; omega); (case hl => have := HYL.out; have := HS.out; rw [HSZ.out]; omega); (case hB => exact below_step HBC.out HF3.out); (case hg => exact HW1.out); intro A4 c4 w4 hC4 hc4 hB4; rw [HZ.out] at hC4 hc4; rw [HZ.out]; have HC4 := Aside0.mk hC4; have Hc4 := Aside0.mk hc4; have HB4 := Aside0.mk hB4; clear hC4 hc4 hB4)
      | (have HFA : Aside0 (Below w1.drew.heap.size w1.drew w3) := HF3; refine step_append_conv (w0 := w) ?hw (.tmp 9) (.tmp 17) 47 5 rfl Try.underlying47 HI.out w3.heap.size (grownCap w3 a.size 0 5) (bytesOf a) y (Lib.bytesCells w3 5 a) ((Lib.bytesCells w3 5 a).size, (Lib.bytesCells w3 5 a).size + 1) ?blk ?fz ?cur ?take ?cap ?hs A3 c3 ?hx (Kd.C_below HC3.out (bytes_below (Below.refl _ _) (Nat.le_refl _) 5 a)) ?hy ?hl ?hB ?hg ?_; (case hw => rfl); (case blk => exact conv_block w3 5 a); (case fz => exact Nat.le_refl _); (case cur => exact (conv_cells w3 5 a).1); (case take => exact (conv_cells w3 5 a).2); (case cap => rw [HSZ.out]; exact grownCap_ge _ _ _ _); (case hs => rw [HSZ.out]; rfl); (case hx => rfl); (case hy => have := HYL.out; omega); (case hl => have := HYL.out; have := HS.out; rw [HSZ.out]; omega); (case hB => exact bytes_below (below_step HBD.out HF3.out) (below_step HBD.out HF3.out).size 5 a); (case hg => exact (below_step HBD.out HF3.out).size); intro A4 c4 w4 hC4 hc4 hB4; rw [HZ.out] at hC4 hc4; rw [HZ.out]; have HC4 := Aside0.mk hC4; have Hc4 := Aside0.mk hc4; have HB4 := Aside0.mk hB4; clear hC4 hc4 hB4))
    all_goals (go_wp2; go_ret2; exact ⟨A4, c4, rfl, HC4.out, Hc4.out, HB4.out⟩)

end Go.Proofs.Ytdoolmomkffdaaa.G

/- Printed by the session's program over the kit's print, out of the translation: functions as plain Lean functions, and the proofs that the calls come to them. -/
namespace Go.Proofs.Ytdoolmomkffdaaa.G
open Go.RowKit Go.Proofs.YtdoolmomkffdaaaW.PrintWords Go.Proofs.YtdoolmomkffdaaaW.PrintLast Go.Proofs.YtdoolmomkffdaaaW.PrintMore
attribute [local go_sem] max2_int min2_int max_two min_two max_three min_three max_four min_four   -- for this text's walks alone
set_option linter.unusedVariables false
set_option linter.unusedSimpArgs false

/-! ### moraineref03_Unpack: function 15 -/
def moraineref03_Unpack.f (a0 : Int) : Option (Int × Int × Int) := (moraineref03_kind.f (wrap64 (Int.tmod a0 256))).bind fun t196 => (if t196 = true then (some (IntKind.u64.wrap (Int.tdiv a0 256), wrap64 (Int.tmod a0 256), 0)) else (some (0, 0, 30)))
set_option maxHeartbeats 8000000 in
set_option maxRecDepth 100000 in
theorem moraineref03_Unpack.calls (a0 : Int) (r1 : Int) (r2 : Int) (r3 : Int) (w : World) (h : moraineref03_Unpack.f a0 = some (r1, r2, r3)) :
    Calls Try.prog 15 #[.int .u64 a0] w fun e w' => e = .returned (.tuple #[.int .u64 r1, .int .i64 r2, .int .i64 r3]) ∧ Drawn0 w w' := by
  have H : ((moraineref03_kind.f (wrap64 (Int.tmod a0 256))).bind fun t196 => (if t196 = true then (some (IntKind.u64.wrap (Int.tdiv a0 256), wrap64 (Int.tmod a0 256), 0)) else (some (0, 0, 30)))) = some (r1, r2, r3) := h
  clear h
  replace H := Option.bind_eq_some_iff.mp H
  obtain ⟨t196, A20, H⟩ := H
  replace H : (if t196 = true then (some (IntKind.u64.wrap (Int.tdiv a0 256), wrap64 (Int.tmod a0 256), 0)) else (some (0, 0, 30))) = some (r1, r2, r3) := H
  have A2 := Aside0.mk A20
  clear A20
  by_cases c3 : t196 = true
  · subst c3
    have H1 : (some (IntKind.u64.wrap (Int.tdiv a0 256), wrap64 (Int.tmod a0 256), 0)) = some (r1, r2, r3) := by rw [if_pos rfl] at H; exact H
    clear H
    have H := H1
    clear H1
    simp only [Option.some.injEq, Prod.mk.injEq] at H
    obtain ⟨rfl, rfl, rfl⟩ := H
    go_enter Try.func15, Try.ntmps15
    go_wp2_with (first | ((with_reducible refine gate_callee (f := 36) rfl ?_); refine goesL_ (some 8) rfl rfl Try.func36 (by kernel_rfl) rfl #[.int .i64 (wrap64 (Int.tmod a0 256))] rfl (by (try simp only [List.map_toArray, List.map_cons, List.map_nil]); first | done | rfl | (simp only [List.length_drop, List.length_take]; rfl)) ?_; (with_reducible refine (moraineref03_kind.calls (wrap64 (Int.tmod a0 256)) true _ A2.out).mono ?_); rintro e w' ⟨rfl, ⟨nd, rfl⟩⟩; refine ⟨_, rfl, ?_⟩))
    go_ret3
    exact ⟨by first | rfl | (simp; done) | (simp [*]; done), by repeat (first | exact Drawn0.refl _ | apply Drawn0.step)⟩
  · replace c3 := Bool.eq_false_iff.mpr c3
    subst c3
    have H1 : (some (0, 0, 30)) = some (r1, r2, r3) := by rw [if_neg (show ¬ (false = true) by decide)] at H; exact H
    clear H
    have H := H1
    clear H1
    simp only [Option.some.injEq, Prod.mk.injEq] at H
    obtain ⟨rfl, rfl, rfl⟩ := H
    go_enter Try.func15, Try.ntmps15
    go_wp2_with (first | ((with_reducible refine gate_callee (f := 36) rfl ?_); refine goesL_ (some 8) rfl rfl Try.func36 (by kernel_rfl) rfl #[.int .i64 (wrap64 (Int.tmod a0 256))] rfl (by (try simp only [List.map_toArray, List.map_cons, List.map_nil]); first | done | rfl | (simp only [List.length_drop, List.length_take]; rfl)) ?_; (with_reducible refine (moraineref03_kind.calls (wrap64 (Int.tmod a0 256)) false _ A2.out).mono ?_); rintro e w' ⟨rfl, ⟨nd, rfl⟩⟩; refine ⟨_, rfl, ?_⟩))
    go_ret3
    exact ⟨by first | rfl | (simp; done) | (simp [*]; done), by repeat (first | exact Drawn0.refl _ | apply Drawn0.step)⟩

end Go.Proofs.Ytdoolmomkffdaaa.G

/- Contracts typed by hand: moraineref03.Decode: a key of bytes -/
namespace Go.Proofs.Ytdoolmomkffdaaa.G
open Go.RowKit Go.Proofs.YtdoolmomkffdaaaW.PrintWords Go.Proofs.YtdoolmomkffdaaaW.PrintLast Go.Proofs.YtdoolmomkffdaaaW.PrintMore
attribute [local go_sem] max2_int min2_int max_two min_two max_three min_three max_four min_four
set_option linter.unusedVariables false
set_option linter.unusedSimpArgs false

/-! moraineref03.Decode: a key of bytes -/

def moraineref03_Decode.f (k : Nat) (l0 : List Int) : Option (ByteArray × Int × Int × Int) := if (l0.length : Int) ≤ 281474976710656 then (if (l0.length : Int) < 9 then some ((⟨#[]⟩ : ByteArray), 0, 0, 30) else if (l0.length : Int) > 1032 then some ((⟨#[]⟩ : ByteArray), 0, 0, 30) else
  (moraineref01_ReadFixed.f k l0 ((l0.length : Int) - 8) 8).bind fun t => (moraineref03_Unpack.f t.1).bind fun u => if u.2.2 = 0 then some (strOfNums (l0.take (l0.length - 8)), u.1, u.2.1, 0) else some ((⟨#[]⟩ : ByteArray), 0, 0, 30)) else none
theorem moraineref03_Decode.mono : ∀ l0 k, LeO (moraineref03_Decode.f k l0) (moraineref03_Decode.f (k + 1) l0) := by
  intro l0 k
  unfold moraineref03_Decode.f
  exact LeO.ite (LeO.ite (LeO.refl _) (LeO.ite (LeO.refl _) (LeO.bind (moraineref01_ReadFixed.mono _ _ _ _) fun _ => LeO.refl _))) (LeO.refl _)
set_option maxHeartbeats 4000000 in
set_option maxRecDepth 100000 in
theorem moraineref03_Decode.calls (k : Nat) (A0 : Option Addr) (c0 : Nat) (l0 : List Int) (r1 : ByteArray) (r2 : Int) (r3 : Int) (r4 : Int) (w : World) (hr0 : Kd.C (Kd.int .u8) w A0 l0.length l0) (hc0 : l0.length ≤ c0) (h : moraineref03_Decode.f k l0 = some (r1, r2, r3, r4)) :
    Calls Try.prog 26 #[.slice A0 l0.length c0] w fun e w' => e = .returned (.tuple #[.agg #[.string r1, .int .u64 r2, .int .i64 r3], .int .i64 r4]) ∧ Below w.heap.size w w' := by
  have hu := Try.underlying35
  unfold moraineref03_Decode.f at h
  by_cases hl : (l0.length : Int) ≤ 281474976710656
  · rw [if_pos hl] at h
    have HR := Aside0.mk hr0
    have HC := Aside0.mk hc0
    have HB := Aside0.mk (below_alloc (Below.refl w.heap.size w) (.cells #[.string (⟨#[]⟩ : ByteArray), .int .u64 0, .int .i64 0] 35))
    have hbk0 : (w.alloc (.cells #[.string (⟨#[]⟩ : ByteArray), .int .u64 0, .int .i64 0] 35)).heap[w.heap.size]? = some (.cells #[.string (⟨#[]⟩ : ByteArray), .int .u64 0, .int .i64 0] 35 (0, 0)) := by
      show (w.heap.push _)[w.heap.size]? = _
      simp
    have BK := Aside0.mk hbk0
    clear hr0 hc0 hbk0
    by_cases h1 : (l0.length : Int) < 9
    · rw [if_pos h1] at h
      simp only [Option.some.injEq, Prod.mk.injEq] at h
      obtain ⟨rfl, rfl, rfl, rfl⟩ := h
      have b1 : decide ((l0.length : Int) < 9) = true := decide_eq_true (by omega)
      go_enter Try.func26, Try.ntmps26
      go_wp2
      refine bodyPost_ret (results_ct rfl _ _ w.heap.size 35 #[.string (⟨#[]⟩ : ByteArray), .int .u64 0, .int .i64 0] (0, 0) _ rfl ?bk1 Try.underlying35 rfl (by kernel_rfl)) rfl ?_
      case bk1 => exact BK.out
      exact ⟨rfl, HB.out⟩
    · rw [if_neg h1] at h
      by_cases h2 : (l0.length : Int) > 1032
      · rw [if_pos h2] at h
        simp only [Option.some.injEq, Prod.mk.injEq] at h
        obtain ⟨rfl, rfl, rfl, rfl⟩ := h
        have b1 : decide ((l0.length : Int) < 9) = false := decide_eq_false (by omega)
        have b2 : decide (1032 < (l0.length : Int)) = true := decide_eq_true (by omega)
        go_enter Try.func26, Try.ntmps26
        go_wp2
        refine bodyPost_ret (results_ct rfl _ _ w.heap.size 35 #[.string (⟨#[]⟩ : ByteArray), .int .u64 0, .int .i64 0] (0, 0) _ rfl ?bk2 Try.underlying35 rfl (by kernel_rfl)) rfl ?_
        case bk2 => exact BK.out
        exact ⟨rfl, HB.out⟩
      · rw [if_neg h2] at h
        obtain ⟨⟨v, t2, t3⟩, hv, h⟩ := Option.bind_eq_some_iff.1 h
        obtain ⟨⟨u1, u2, u3⟩, hu3, h⟩ := Option.bind_eq_some_iff.1 h
        simp only [] at h
        have HV := Aside0.mk hv
        have HU := Aside0.mk (show moraineref03_Unpack.f v = some (u1, u2, u3) from hu3)
        clear hv hu3
        have b1 : decide ((l0.length : Int) < 9) = false := decide_eq_false (by omega)
        have b2 : decide (1032 < (l0.length : Int)) = false := decide_eq_false (by omega)
        have b5 : decide (0 ≤ (l0.length : Int) - 8) = true := decide_eq_true (by omega)
        have b6 : decide ((l0.length : Int) - 8 ≤ (l0.length : Int)) = true := decide_eq_true (by omega)
        obtain ⟨i0, hi0, _, hsz, _⟩ := info_parts (show (Try.prog.info? 5).map (fun i => (i.zero, i.size, i.bytes)) = some (some (.int .u8 0), 1, 1) by kernel_rfl)
        have hcut := cut_to (P := Try.prog) 47 5 .i64 Try.underlying47 hi0 A0 l0.length c0 ((l0.length : Int) - 8) (by omega) (by omega) HC.out
        have hcv := fun W (q : Kd.C (Kd.int .u8) W A0 l0.length l0) => Kd.C_string (P := Try.prog) (w := W) (A := A0) (c := c0) Try.underlying47 Try.underlying5 Try.underlying9 (Kd.C_take (m := l0.length - 8) q (by omega))
        have hjn : ((l0.length : Int) - 8).toNat = l0.length - 8 := by omega
        rw [hjn] at hcut
        have htl : (l0.take (l0.length - 8)).length = l0.length - 8 := by rw [List.length_take]; omega
        obtain ⟨m8, hm8⟩ : ∃ m8, l0.length - 8 = m8 := ⟨_, rfl⟩
        obtain ⟨s8, hs8⟩ : ∃ s8, strOfNums (l0.take m8) = s8 := ⟨_, rfl⟩
        rw [hm8] at hcut hcv h htl
        have HTL := Aside0.mk htl
        rw [hs8] at hcv h
        have HCV := Aside0.mk hcv
        clear hi0 hsz hjn hm8 hs8 hcv htl
        by_cases h3 : u3 = 0
        · subst h3
          rw [if_pos rfl] at h
          simp only [Option.some.injEq, Prod.mk.injEq] at h
          obtain ⟨rfl, rfl, rfl, rfl⟩ := h
          go_enter Try.func26, Try.ntmps26
          go_wp2_with fail
          (with_reducible refine (moraineref01_ReadFixed.calls k A0 c0 l0 ((l0.length : Int) - 8) 8 v t2 t3 _ (Kd.C_below HR.out HB.out) HC.out HV.out).mono ?_)
          rintro e w1 ⟨rfl, hd⟩
          have HB1 := Aside0.mk (below_step HB.out hd.below)
          have BK1 := Aside0.mk ((hd.below.block _ (blk_lt BK.out)).trans BK.out)
          have HR1 := Aside0.mk (Kd.C_below HR.out HB1.out)
          clear hd
          go_wp2_with fail
          (with_reducible refine (moraineref03_Unpack.calls _ _ _ _ _ HU.out).mono ?_)
          rintro e w2 ⟨rfl, hd⟩
          have HB2 := Aside0.mk (below_step HB1.out hd.below)
          have BK2 := Aside0.mk ((hd.below.block _ (blk_lt BK1.out)).trans BK1.out)
          have HR2 := Aside0.mk (Kd.C_below HR.out HB2.out)
          clear hd
          have hcw := HCV.out _ HR2.out
          rw [HTL.out] at hcw
          have hz0 : w2.cell? ⟨w.heap.size, 0, none⟩ = some (.string (⟨#[]⟩ : ByteArray)) := (blk_cell BK2.out 0).trans rfl
          have hz1 : w2.cell? ⟨w.heap.size, 1, none⟩ = some (.int .u64 0) := (blk_cell BK2.out 1).trans rfl
          have hz2 : w2.cell? ⟨w.heap.size, 2, none⟩ = some (.int .i64 0) := (blk_cell BK2.out 2).trans rfl
          have hf0 := blk_frozen BK2.out 0
          have hf1 := blk_frozen BK2.out 1
          have hf2 := blk_frozen BK2.out 2
          go_wp2
          refine bodyPost_ret (results_ct rfl _ _ w.heap.size 35 #[.string s8, .int .u64 u1, .int .i64 u2] (0, 0) _ rfl ?bk3 Try.underlying35 rfl (by kernel_rfl)) rfl ?_
          case bk3 => exact blk_put (cs := #[.string s8, .int .u64 u1, .int .i64 0]) (blk_put (cs := #[.string s8, .int .u64 0, .int .i64 0]) (blk_put (cs := #[.string (⟨#[]⟩ : ByteArray), .int .u64 0, .int .i64 0]) BK2.out 0 _ rfl) 1 _ rfl) 2 _ rfl
          exact ⟨rfl, below_set (below_set (below_set HB2.out (Nat.le_refl _)) (Nat.le_refl _)) (Nat.le_refl _)⟩
        · rw [if_neg h3] at h
          simp only [Option.some.injEq, Prod.mk.injEq] at h
          obtain ⟨rfl, rfl, rfl, rfl⟩ := h
          have b3 : (u3 != 0) = true := bne_iff_ne.2 h3
          have b4 : (u3 == 0) = false := beq_eq_false_iff_ne.2 h3
          clear h3
          go_enter Try.func26, Try.ntmps26
          go_wp2_with fail
          (with_reducible refine (moraineref01_ReadFixed.calls k A0 c0 l0 ((l0.length : Int) - 8) 8 v t2 t3 _ (Kd.C_below HR.out HB.out) HC.out HV.out).mono ?_)
          rintro e w1 ⟨rfl, hd⟩
          have HB1 := Aside0.mk (below_step HB.out hd.below)
          have BK1 := Aside0.mk ((hd.below.block _ (blk_lt BK.out)).trans BK.out)
          clear hd
          go_wp2_with fail
          (with_reducible refine (moraineref03_Unpack.calls _ _ _ _ _ HU.out).mono ?_)
          rintro e w2 ⟨rfl, hd⟩
          have HB2 := Aside0.mk (below_step HB1.out hd.below)
          have BK2 := Aside0.mk ((hd.below.block _ (blk_lt BK1.out)).trans BK1.out)
          clear hd
          have hz0 : w2.cell? ⟨w.heap.size, 0, none⟩ = some (.string (⟨#[]⟩ : ByteArray)) := (blk_cell BK2.out 0).trans rfl
          have hz1 : w2.cell? ⟨w.heap.size, 1, none⟩ = some (.int .u64 0) := (blk_cell BK2.out 1).trans rfl
          have hz2 : w2.cell? ⟨w.heap.size, 2, none⟩ = some (.int .i64 0) := (blk_cell BK2.out 2).trans rfl
          have hf0 := blk_frozen BK2.out 0
          have hf1 := blk_frozen BK2.out 1
          have hf2 := blk_frozen BK2.out 2
          go_wp2
          refine bodyPost_ret (results_ct rfl _ _ w.heap.size 35 #[.string (⟨#[]⟩ : ByteArray), .int .u64 0, .int .i64 0] (0, 0) _ rfl ?bk4 Try.underlying35 rfl (by kernel_rfl)) rfl ?_
          case bk4 => exact blk_put (cs := #[.string (⟨#[]⟩ : ByteArray), .int .u64 0, .int .i64 0]) (blk_put (cs := #[.string (⟨#[]⟩ : ByteArray), .int .u64 0, .int .i64 0]) (blk_put (cs := #[.string (⟨#[]⟩ : ByteArray), .int .u64 0, .int .i64 0]) BK2.out 0 _ rfl) 1 _ rfl) 2 _ rfl
          exact ⟨rfl, below_set (below_set (below_set HB2.out (Nat.le_refl _)) (Nat.le_refl _)) (Nat.le_refl _)⟩
  · rw [if_neg hl] at h
    cases h


end Go.Proofs.Ytdoolmomkffdaaa.G

/- Contracts typed by hand: an argument that can be read is of its kind: from the form's reading to the words of the walks -/
namespace Go.Proofs.Ytdoolmomkffdaaa.G
open Go.RowKit Go.Proofs.YtdoolmomkffdaaaW.PrintWords Go.Proofs.YtdoolmomkffdaaaW.PrintLast Go.Proofs.YtdoolmomkffdaaaW.PrintMore
attribute [local go_sem] max2_int min2_int max_two min_two max_three min_three max_four min_four
set_option linter.unusedVariables false
set_option linter.unusedSimpArgs false

/-! an argument that can be read is of its kind: from the form's reading to the words of the walks -/
open Go.ChangeShapes Go.WideShapes Go.Deep
structure Opens (P : Program) (t : TypeId) {α : Type} (d : Kd α) (good : α → Prop) (bulk : α → Nat) : Prop where
  sz : P.cellsOf t = d.sz
  one : ∀ x, 1 ≤ bulk x
  go : ∀ {H : Type} {enc : TypeId × Value → H} {w : World} {base : Nat} {spare : Nat → Bool} {held : Bool} {fuel : Nat} {cs : List Value} {x : DataW H × List MemPlace}, DataW.trod enc P w base spare held fuel t cs = some x → ∃ a : α, d.K w a cs ∧ good a ∧ bulk a ≤ Rows.uptoBulk x.1
theorem opens_int {P : Program} {t : TypeId} {k : IntKind} (h : P.underlying t = some (.int k)) (hc : P.cellsOf t = 1) : Opens P t (Kd.int k) (fun n => (Lit.int k n).wf = true) (fun _ => 1) where
  sz := hc
  one := fun _ => Nat.le_refl 1
  go := by
    intro H enc w base spare held fuel cs x hx
    obtain ⟨n, rfl, rfl, hw⟩ := DataW.trod_int h hx
    exact ⟨n, rfl, hw, by simp [Rows.uptoBulk]⟩
theorem opens_bool {P : Program} {t : TypeId} (h : P.underlying t = some .bool) (hc : P.cellsOf t = 1) : Opens P t Kd.bool (fun _ => True) (fun _ => 1) where
  sz := hc
  one := fun _ => Nat.le_refl 1
  go := by
    intro H enc w base spare held fuel cs x hx
    obtain ⟨n, rfl, rfl⟩ := DataW.trod_bool h hx
    exact ⟨n, rfl, trivial, by simp [Rows.uptoBulk]⟩
theorem opens_string {P : Program} {t : TypeId} (h : P.underlying t = some .string) (hc : P.cellsOf t = 1) : Opens P t Kd.string (fun s => s.size ≤ maxLen) (fun s => s.size + 1) where
  sz := hc
  one := fun s => Nat.le_add_left 1 s.size
  go := by
    intro H enc w base spare held fuel cs x hx
    obtain ⟨s, rfl, rfl, hw⟩ := DataW.trod_string h hx
    exact ⟨s, rfl, hw, by simp [Rows.uptoBulk]⟩
def sumBulk {α : Type} (bulk : α → Nat) (l : List α) : Nat := (l.map bulk).sum
theorem sumBulk_nil {α : Type} (bulk : α → Nat) : sumBulk bulk [] = 0 := rfl
theorem sumBulk_cons {α : Type} (bulk : α → Nat) (x : α) (l : List α) : sumBulk bulk (x :: l) = bulk x + sumBulk bulk l := by simp [sumBulk]
theorem sumBulk_append {α : Type} (bulk : α → Nat) (l r : List α) : sumBulk bulk (l ++ r) = sumBulk bulk l + sumBulk bulk r := by simp [sumBulk, List.sum_append]
theorem sumBulk_mem {α : Type} (bulk : α → Nat) {x : α} {l : List α} (h : x ∈ l) : bulk x ≤ sumBulk bulk l := by
  induction l with
  | nil => cases h
  | cons y r ih =>
    rw [sumBulk_cons]
    rcases List.mem_cons.1 h with rfl | h
    · omega
    · have := ih h; omega
theorem sumBulk_len {α : Type} (bulk : α → Nat) (h1 : ∀ x, 1 ≤ bulk x) (l : List α) : l.length ≤ sumBulk bulk l := by
  induction l with
  | nil => exact Nat.zero_le _
  | cons y r ih => rw [sumBulk_cons, List.length_cons]; have := h1 y; omega
theorem list_of {α : Type} {Q : Nat → α → Prop} : ∀ (n : Nat), (∀ i, i < n → ∃ y, Q i y) → ∃ l : List α, l.length = n ∧ ∀ i y, l[i]? = some y → Q i y
  | 0, _ => ⟨[], rfl, fun i y h => by simp at h⟩
  | n + 1, h => by
    obtain ⟨l, hl, hq⟩ := list_of n (fun i hi => h i (by omega))
    obtain ⟨y, hy⟩ := h n (by omega)
    refine ⟨l ++ [y], by simp [hl], fun i z hz => ?_⟩
    rcases Nat.lt_trichotomy i n with hi | hi | hi
    · rw [List.getElem?_append_left (by omega)] at hz
      exact hq i z hz
    · subst hi
      rw [List.getElem?_append_right (by omega), hl] at hz
      simp at hz
      subst hz
      exact hy
    · rw [List.getElem?_eq_none (by simp [hl]; omega)] at hz
      cases hz
theorem bulkAll_append {H : Type} (l r : List (DataW H)) : Rows.uptoBulkAll (l ++ r) = Rows.uptoBulkAll l + Rows.uptoBulkAll r := by
  induction l with
  | nil => simp [Rows.uptoBulkAll]
  | cons x l ih => simp only [List.cons_append, Rows.uptoBulkAll, ih]; omega
theorem bulkAll_map {H : Type} {α : Type} (bulk : α → Nat) (D : Nat → DataW H) : ∀ (n : Nat) (l : List α), l.length = n → (∀ i y, l[i]? = some y → bulk y ≤ Rows.uptoBulk (D i)) → sumBulk bulk l ≤ Rows.uptoBulkAll ((List.range n).map D)
  | 0, l, hl, _ => by
    have : l = [] := List.length_eq_zero_iff.1 hl
    subst this
    simp [sumBulk]
  | n + 1, l, hl, h => by
    have hne : l ≠ [] := by
      intro e
      rw [e] at hl
      simp at hl
    obtain ⟨l0, y0, rfl⟩ : ∃ l0 y0, l = l0 ++ [y0] := ⟨l.dropLast, l.getLast hne, (List.dropLast_concat_getLast hne).symm⟩
    have hd : l0.length = n := by simpa using hl
    have ih := bulkAll_map bulk D n l0 hd (fun i y hy => h i y (by
      have hi : i < l0.length := (List.getElem?_eq_some_iff.1 hy).1
      rw [List.getElem?_append_left hi]
      exact hy))
    have hn := h n y0 (by
      rw [List.getElem?_append_right (by omega), hd]
      simp)
    rw [List.range_succ, List.map_append, bulkAll_append, sumBulk_append]
    simp only [List.map_cons, List.map_nil, sumBulk_cons, sumBulk_nil, Rows.uptoBulkAll]
    omega
theorem opens_slice {P : Program} {t e : TypeId} {α : Type} {d : Kd α} {good : α → Prop} {bulk : α → Nat} (h : P.underlying t = some (.slice e)) (hc : P.cellsOf t = 1) (he : Opens P e d good bulk) : Opens P t (Kd.slice e d) (fun l => ∀ x ∈ l, good x) (fun l => sumBulk bulk l + 1) where
  sz := hc
  one := fun l => Nat.le_add_left 1 _
  go := by
    intro H enc w base spare held fuel cs x hx
    rcases open_slice h hx with ⟨rfl, rfl⟩ | ⟨a, len, cap, m, n, D, Pl, rfl, hb, hl, hm, hmm, rfl, hi⟩
    · exact ⟨[], ⟨none, 0, rfl, Nat.le_refl _, Kd.C_nil _ _⟩, by simp, by simp [sumBulk, Rows.uptoBulk]⟩
    · have hlm : len ≤ m := by
        rw [hmm]
        split
        · exact hl
        · exact Nat.le_refl _
      obtain ⟨l, hll, hq⟩ := list_of (Q := fun i y => ∃ cs', w.cells? base (a.add (i * P.cellsOf e)) (P.cellsOf e) = some cs' ∧ d.K w y cs' ∧ good y ∧ bulk y ≤ Rows.uptoBulk (D i)) len (fun i hlt => by
        obtain ⟨cs', hcs, ht⟩ := hi i (by omega)
        obtain ⟨y, h1, h2, h3⟩ := he.go ht
        exact ⟨y, cs', hcs, h1, h2, h3⟩)
      subst hll
      refine ⟨l, ⟨some a, cap, rfl, hl, rfl, by unfold maxLen at hm; omega, fun _ => ⟨a, rfl, fun j p hj => ?_⟩⟩, fun x hx => ?_, ?_⟩
      · obtain ⟨cs', hcs, hk, _, _⟩ := hq j p hj
        obtain ⟨_, hlen, hat⟩ := World.cells?_some hcs
        rw [he.sz] at hlen hat
        refine ⟨cs', hlen, hk, fun i u hu => ?_⟩
        have hil : i < cs'.length := (List.getElem?_eq_some_iff.1 hu).1
        have := hat i (by omega)
        rw [Go.Deep.add_add] at this
        rw [this, hu]
      · obtain ⟨i, hi2⟩ := List.getElem?_of_mem hx
        obtain ⟨_, _, _, hg, _⟩ := hq i x hi2
        exact hg
      · have hbk := bulkAll_map bulk D l.length l rfl (fun i y hy => by
          obtain ⟨_, _, _, _, h5⟩ := hq i y hy
          exact h5)
        simp only [Rows.uptoBulk]
        omega
theorem opens_struct2 {P : Program} {t : TypeId} {f0 f1 : Field} {α β : Type} {d0 : Kd α} {d1 : Kd β} {g0 : α → Prop} {g1 : β → Prop} {b0 : α → Nat} {b1 : β → Nat} (ht : P.underlying t = some (.struct #[f0, f1])) (hc : P.cellsOf t = d0.sz + d1.sz)
    (ho0 : f0.offset = 0) (ho1 : f1.offset = d0.sz) (h0 : Opens P f0.type d0 g0 b0) (h1 : Opens P f1.type d1 g1 b1) : Opens P t (Kd.pair d0 d1) (fun x => g0 x.1 ∧ g1 x.2) (fun x => b0 x.1 + b1 x.2 + 1) where
  sz := hc
  one := fun l => Nat.le_add_left 1 _
  go := by
    intro H enc w base spare held fuel cs x hx
    obtain ⟨y0, y1, n, rfl, hl, e0, e1⟩ := trod_struct2 ht hx
    obtain ⟨a, k0, q0, p0⟩ := h0.go e0
    obtain ⟨b, k1, q1, p1⟩ := h1.go e1
    rw [ho0, h0.sz] at k0
    rw [ho1, h1.sz] at k1
    refine ⟨(a, b), ⟨_, _, ?_, k0, k1⟩, ⟨q0, q1⟩, ?_⟩
    · rw [List.drop_zero]
      have hd : (cs.drop d0.sz).take d1.sz = cs.drop d0.sz := List.take_of_length_le (by rw [List.length_drop]; omega)
      rw [hd, List.take_append_drop]
    · simp only [Rows.uptoBulk, Rows.uptoBulkAll]
      omega
theorem opens_struct3 {P : Program} {t : TypeId} {f0 f1 f2 : Field} {α β γ : Type} {d0 : Kd α} {d1 : Kd β} {d2 : Kd γ} {g0 : α → Prop} {g1 : β → Prop} {g2 : γ → Prop} {b0 : α → Nat} {b1 : β → Nat} {b2 : γ → Nat} (ht : P.underlying t = some (.struct #[f0, f1, f2])) (hc : P.cellsOf t = d0.sz + (d1.sz + d2.sz))
    (ho0 : f0.offset = 0) (ho1 : f1.offset = d0.sz) (ho2 : f2.offset = d0.sz + d1.sz) (h0 : Opens P f0.type d0 g0 b0) (h1 : Opens P f1.type d1 g1 b1) (h2 : Opens P f2.type d2 g2 b2) : Opens P t (Kd.pair d0 (Kd.pair d1 d2)) (fun x => g0 x.1 ∧ g1 x.2.1 ∧ g2 x.2.2) (fun x => b0 x.1 + b1 x.2.1 + b2 x.2.2 + 1) where
  sz := hc
  one := fun l => Nat.le_add_left 1 _
  go := by
    intro H enc w base spare held fuel cs x hx
    obtain ⟨y0, y1, y2, n, rfl, hl, e0, e1, e2⟩ := trod_struct3 ht hx
    obtain ⟨a, k0, q0, p0⟩ := h0.go e0
    obtain ⟨b, k1, q1, p1⟩ := h1.go e1
    obtain ⟨c, k2, q2, p2⟩ := h2.go e2
    rw [ho0, h0.sz] at k0
    rw [ho1, h1.sz] at k1
    rw [ho2, h2.sz] at k2
    refine ⟨(a, b, c), ⟨_, _, ?_, k0, _, _, rfl, k1, k2⟩, ⟨q0, q1, q2⟩, ?_⟩
    · rw [List.drop_zero]
      have hd : (cs.drop (d0.sz + d1.sz)).take d2.sz = cs.drop (d0.sz + d1.sz) := List.take_of_length_le (by rw [List.length_drop]; omega)
      rw [hd, ← List.drop_drop, List.take_append_drop, List.take_append_drop]
    · simp only [Rows.uptoBulk, Rows.uptoBulkAll]
      omega
theorem seg_join {α : Type} (cs : List α) (o n : Nat) : (cs.drop o).take n ++ cs.drop (o + n) = cs.drop o := by
  rw [← List.drop_drop, List.take_append_drop]
theorem opens_struct4 {P : Program} {t : TypeId} {f0 f1 f2 f3 : Field} {α0 α1 α2 α3 : Type} {d0 : Kd α0} {d1 : Kd α1} {d2 : Kd α2} {d3 : Kd α3} {g0 : α0 → Prop} {g1 : α1 → Prop} {g2 : α2 → Prop} {g3 : α3 → Prop} {b0 : α0 → Nat} {b1 : α1 → Nat} {b2 : α2 → Nat} {b3 : α3 → Nat} (ht : P.underlying t = some (.struct #[f0, f1, f2, f3])) (hc : P.cellsOf t = (d0.sz + (d1.sz + (d2.sz + d3.sz))))
    (ho0 : f0.offset = 0) (ho1 : f1.offset = d0.sz) (ho2 : f2.offset = d0.sz + d1.sz) (ho3 : f3.offset = d0.sz + d1.sz + d2.sz) (h0 : Opens P f0.type d0 g0 b0) (h1 : Opens P f1.type d1 g1 b1) (h2 : Opens P f2.type d2 g2 b2) (h3 : Opens P f3.type d3 g3 b3) : Opens P t (Kd.pair d0 (Kd.pair d1 (Kd.pair d2 d3))) (fun x => g0 x.1 ∧ g1 x.2.1 ∧ g2 x.2.2.1 ∧ g3 x.2.2.2) (fun x => b0 x.1 + b1 x.2.1 + b2 x.2.2.1 + b3 x.2.2.2 + 1) where
  sz := hc
  one := fun l => Nat.le_add_left 1 _
  go := by
    intro H enc w base spare held fuel cs x hx
    obtain ⟨xs, n, _, rfl, hl, hlen, hf⟩ := DataW.trod_struct ht hx
    match xs, hlen with
    | [y0, y1, y2, y3], _ =>
      obtain ⟨a0, k0, q0, p0⟩ := h0.go (show DataW.trod enc P w base spare held n f0.type ((cs.drop f0.offset).take (P.cellsOf f0.type)) = some y0 from by simpa using hf 0 f0 rfl)
      rw [ho0, h0.sz] at k0
      obtain ⟨a1, k1, q1, p1⟩ := h1.go (show DataW.trod enc P w base spare held n f1.type ((cs.drop f1.offset).take (P.cellsOf f1.type)) = some y1 from by simpa using hf 1 f1 rfl)
      rw [ho1, h1.sz] at k1
      obtain ⟨a2, k2, q2, p2⟩ := h2.go (show DataW.trod enc P w base spare held n f2.type ((cs.drop f2.offset).take (P.cellsOf f2.type)) = some y2 from by simpa using hf 2 f2 rfl)
      rw [ho2, h2.sz] at k2
      obtain ⟨a3, k3, q3, p3⟩ := h3.go (show DataW.trod enc P w base spare held n f3.type ((cs.drop f3.offset).take (P.cellsOf f3.type)) = some y3 from by simpa using hf 3 f3 rfl)
      rw [ho3, h3.sz] at k3
      refine ⟨(a0, a1, a2, a3), ⟨_, _, ?_, k0, _, _, rfl, k1, _, _, rfl, k2, k3⟩, ⟨q0, q1, q2, q3⟩, ?_⟩
      · rw [List.drop_zero]
        have hd : (cs.drop (d0.sz + d1.sz + d2.sz)).take d3.sz = cs.drop (d0.sz + d1.sz + d2.sz) := List.take_of_length_le (by rw [List.length_drop]; omega)
        rw [hd, seg_join, seg_join, List.take_append_drop]
      · simp only [List.map_cons, List.map_nil, Rows.uptoBulk, Rows.uptoBulkAll]
        omega
theorem opens_struct5 {P : Program} {t : TypeId} {f0 f1 f2 f3 f4 : Field} {α0 α1 α2 α3 α4 : Type} {d0 : Kd α0} {d1 : Kd α1} {d2 : Kd α2} {d3 : Kd α3} {d4 : Kd α4} {g0 : α0 → Prop} {g1 : α1 → Prop} {g2 : α2 → Prop} {g3 : α3 → Prop} {g4 : α4 → Prop} {b0 : α0 → Nat} {b1 : α1 → Nat} {b2 : α2 → Nat} {b3 : α3 → Nat} {b4 : α4 → Nat} (ht : P.underlying t = some (.struct #[f0, f1, f2, f3, f4])) (hc : P.cellsOf t = (d0.sz + (d1.sz + (d2.sz + (d3.sz + d4.sz)))))
    (ho0 : f0.offset = 0) (ho1 : f1.offset = d0.sz) (ho2 : f2.offset = d0.sz + d1.sz) (ho3 : f3.offset = d0.sz + d1.sz + d2.sz) (ho4 : f4.offset = d0.sz + d1.sz + d2.sz + d3.sz) (h0 : Opens P f0.type d0 g0 b0) (h1 : Opens P f1.type d1 g1 b1) (h2 : Opens P f2.type d2 g2 b2) (h3 : Opens P f3.type d3 g3 b3) (h4 : Opens P f4.type d4 g4 b4) : Opens P t (Kd.pair d0 (Kd.pair d1 (Kd.pair d2 (Kd.pair d3 d4)))) (fun x => g0 x.1 ∧ g1 x.2.1 ∧ g2 x.2.2.1 ∧ g3 x.2.2.2.1 ∧ g4 x.2.2.2.2) (fun x => b0 x.1 + b1 x.2.1 + b2 x.2.2.1 + b3 x.2.2.2.1 + b4 x.2.2.2.2 + 1) where
  sz := hc
  one := fun l => Nat.le_add_left 1 _
  go := by
    intro H enc w base spare held fuel cs x hx
    obtain ⟨xs, n, _, rfl, hl, hlen, hf⟩ := DataW.trod_struct ht hx
    match xs, hlen with
    | [y0, y1, y2, y3, y4], _ =>
      obtain ⟨a0, k0, q0, p0⟩ := h0.go (show DataW.trod enc P w base spare held n f0.type ((cs.drop f0.offset).take (P.cellsOf f0.type)) = some y0 from by simpa using hf 0 f0 rfl)
      rw [ho0, h0.sz] at k0
      obtain ⟨a1, k1, q1, p1⟩ := h1.go (show DataW.trod enc P w base spare held n f1.type ((cs.drop f1.offset).take (P.cellsOf f1.type)) = some y1 from by simpa using hf 1 f1 rfl)
      rw [ho1, h1.sz] at k1
      obtain ⟨a2, k2, q2, p2⟩ := h2.go (show DataW.trod enc P w base spare held n f2.type ((cs.drop f2.offset).take (P.cellsOf f2.type)) = some y2 from by simpa using hf 2 f2 rfl)
      rw [ho2, h2.sz] at k2
      obtain ⟨a3, k3, q3, p3⟩ := h3.go (show DataW.trod enc P w base spare held n f3.type ((cs.drop f3.offset).take (P.cellsOf f3.type)) = some y3 from by simpa using hf 3 f3 rfl)
      rw [ho3, h3.sz] at k3
      obtain ⟨a4, k4, q4, p4⟩ := h4.go (show DataW.trod enc P w base spare held n f4.type ((cs.drop f4.offset).take (P.cellsOf f4.type)) = some y4 from by simpa using hf 4 f4 rfl)
      rw [ho4, h4.sz] at k4
      refine ⟨(a0, a1, a2, a3, a4), ⟨_, _, ?_, k0, _, _, rfl, k1, _, _, rfl, k2, _, _, rfl, k3, k4⟩, ⟨q0, q1, q2, q3, q4⟩, ?_⟩
      · rw [List.drop_zero]
        have hd : (cs.drop (d0.sz + d1.sz + d2.sz + d3.sz)).take d4.sz = cs.drop (d0.sz + d1.sz + d2.sz + d3.sz) := List.take_of_length_le (by rw [List.length_drop]; omega)
        rw [hd, seg_join, seg_join, seg_join, List.take_append_drop]
      · simp only [List.map_cons, List.map_nil, Rows.uptoBulk, Rows.uptoBulkAll]
        omega
theorem opens_struct6 {P : Program} {t : TypeId} {f0 f1 f2 f3 f4 f5 : Field} {α0 α1 α2 α3 α4 α5 : Type} {d0 : Kd α0} {d1 : Kd α1} {d2 : Kd α2} {d3 : Kd α3} {d4 : Kd α4} {d5 : Kd α5} {g0 : α0 → Prop} {g1 : α1 → Prop} {g2 : α2 → Prop} {g3 : α3 → Prop} {g4 : α4 → Prop} {g5 : α5 → Prop} {b0 : α0 → Nat} {b1 : α1 → Nat} {b2 : α2 → Nat} {b3 : α3 → Nat} {b4 : α4 → Nat} {b5 : α5 → Nat} (ht : P.underlying t = some (.struct #[f0, f1, f2, f3, f4, f5])) (hc : P.cellsOf t = (d0.sz + (d1.sz + (d2.sz + (d3.sz + (d4.sz + d5.sz))))))
    (ho0 : f0.offset = 0) (ho1 : f1.offset = d0.sz) (ho2 : f2.offset = d0.sz + d1.sz) (ho3 : f3.offset = d0.sz + d1.sz + d2.sz) (ho4 : f4.offset = d0.sz + d1.sz + d2.sz + d3.sz) (ho5 : f5.offset = d0.sz + d1.sz + d2.sz + d3.sz + d4.sz) (h0 : Opens P f0.type d0 g0 b0) (h1 : Opens P f1.type d1 g1 b1) (h2 : Opens P f2.type d2 g2 b2) (h3 : Opens P f3.type d3 g3 b3) (h4 : Opens P f4.type d4 g4 b4) (h5 : Opens P f5.type d5 g5 b5) : Opens P t (Kd.pair d0 (Kd.pair d1 (Kd.pair d2 (Kd.pair d3 (Kd.pair d4 d5))))) (fun x => g0 x.1 ∧ g1 x.2.1 ∧ g2 x.2.2.1 ∧ g3 x.2.2.2.1 ∧ g4 x.2.2.2.2.1 ∧ g5 x.2.2.2.2.2) (fun x => b0 x.1 + b1 x.2.1 + b2 x.2.2.1 + b3 x.2.2.2.1 + b4 x.2.2.2.2.1 + b5 x.2.2.2.2.2 + 1) where
  sz := hc
  one := fun l => Nat.le_add_left 1 _
  go := by
    intro H enc w base spare held fuel cs x hx
    obtain ⟨xs, n, _, rfl, hl, hlen, hf⟩ := DataW.trod_struct ht hx
    match xs, hlen with
    | [y0, y1, y2, y3, y4, y5], _ =>
      obtain ⟨a0, k0, q0, p0⟩ := h0.go (show DataW.trod enc P w base spare held n f0.type ((cs.drop f0.offset).take (P.cellsOf f0.type)) = some y0 from by simpa using hf 0 f0 rfl)
      rw [ho0, h0.sz] at k0
      obtain ⟨a1, k1, q1, p1⟩ := h1.go (show DataW.trod enc P w base spare held n f1.type ((cs.drop f1.offset).take (P.cellsOf f1.type)) = some y1 from by simpa using hf 1 f1 rfl)
      rw [ho1, h1.sz] at k1
      obtain ⟨a2, k2, q2, p2⟩ := h2.go (show DataW.trod enc P w base spare held n f2.type ((cs.drop f2.offset).take (P.cellsOf f2.type)) = some y2 from by simpa using hf 2 f2 rfl)
      rw [ho2, h2.sz] at k2
      obtain ⟨a3, k3, q3, p3⟩ := h3.go (show DataW.trod enc P w base spare held n f3.type ((cs.drop f3.offset).take (P.cellsOf f3.type)) = some y3 from by simpa using hf 3 f3 rfl)
      rw [ho3, h3.sz] at k3
      obtain ⟨a4, k4, q4, p4⟩ := h4.go (show DataW.trod enc P w base spare held n f4.type ((cs.drop f4.offset).take (P.cellsOf f4.type)) = some y4 from by simpa using hf 4 f4 rfl)
      rw [ho4, h4.sz] at k4
      obtain ⟨a5, k5, q5, p5⟩ := h5.go (show DataW.trod enc P w base spare held n f5.type ((cs.drop f5.offset).take (P.cellsOf f5.type)) = some y5 from by simpa using hf 5 f5 rfl)
      rw [ho5, h5.sz] at k5
      refine ⟨(a0, a1, a2, a3, a4, a5), ⟨_, _, ?_, k0, _, _, rfl, k1, _, _, rfl, k2, _, _, rfl, k3, _, _, rfl, k4, k5⟩, ⟨q0, q1, q2, q3, q4, q5⟩, ?_⟩
      · rw [List.drop_zero]
        have hd : (cs.drop (d0.sz + d1.sz + d2.sz + d3.sz + d4.sz)).take d5.sz = cs.drop (d0.sz + d1.sz + d2.sz + d3.sz + d4.sz) := List.take_of_length_le (by rw [List.length_drop]; omega)
        rw [hd, seg_join, seg_join, seg_join, seg_join, List.take_append_drop]
      · simp only [List.map_cons, List.map_nil, Rows.uptoBulk, Rows.uptoBulkAll]
        omega
theorem opens_struct7 {P : Program} {t : TypeId} {f0 f1 f2 f3 f4 f5 f6 : Field} {α0 α1 α2 α3 α4 α5 α6 : Type} {d0 : Kd α0} {d1 : Kd α1} {d2 : Kd α2} {d3 : Kd α3} {d4 : Kd α4} {d5 : Kd α5} {d6 : Kd α6} {g0 : α0 → Prop} {g1 : α1 → Prop} {g2 : α2 → Prop} {g3 : α3 → Prop} {g4 : α4 → Prop} {g5 : α5 → Prop} {g6 : α6 → Prop} {b0 : α0 → Nat} {b1 : α1 → Nat} {b2 : α2 → Nat} {b3 : α3 → Nat} {b4 : α4 → Nat} {b5 : α5 → Nat} {b6 : α6 → Nat} (ht : P.underlying t = some (.struct #[f0, f1, f2, f3, f4, f5, f6])) (hc : P.cellsOf t = (d0.sz + (d1.sz + (d2.sz + (d3.sz + (d4.sz + (d5.sz + d6.sz)))))))
    (ho0 : f0.offset = 0) (ho1 : f1.offset = d0.sz) (ho2 : f2.offset = d0.sz + d1.sz) (ho3 : f3.offset = d0.sz + d1.sz + d2.sz) (ho4 : f4.offset = d0.sz + d1.sz + d2.sz + d3.sz) (ho5 : f5.offset = d0.sz + d1.sz + d2.sz + d3.sz + d4.sz) (ho6 : f6.offset = d0.sz + d1.sz + d2.sz + d3.sz + d4.sz + d5.sz) (h0 : Opens P f0.type d0 g0 b0) (h1 : Opens P f1.type d1 g1 b1) (h2 : Opens P f2.type d2 g2 b2) (h3 : Opens P f3.type d3 g3 b3) (h4 : Opens P f4.type d4 g4 b4) (h5 : Opens P f5.type d5 g5 b5) (h6 : Opens P f6.type d6 g6 b6) : Opens P t (Kd.pair d0 (Kd.pair d1 (Kd.pair d2 (Kd.pair d3 (Kd.pair d4 (Kd.pair d5 d6)))))) (fun x => g0 x.1 ∧ g1 x.2.1 ∧ g2 x.2.2.1 ∧ g3 x.2.2.2.1 ∧ g4 x.2.2.2.2.1 ∧ g5 x.2.2.2.2.2.1 ∧ g6 x.2.2.2.2.2.2) (fun x => b0 x.1 + b1 x.2.1 + b2 x.2.2.1 + b3 x.2.2.2.1 + b4 x.2.2.2.2.1 + b5 x.2.2.2.2.2.1 + b6 x.2.2.2.2.2.2 + 1) where
  sz := hc
  one := fun l => Nat.le_add_left 1 _
  go := by
    intro H enc w base spare held fuel cs x hx
    obtain ⟨xs, n, _, rfl, hl, hlen, hf⟩ := DataW.trod_struct ht hx
    match xs, hlen with
    | [y0, y1, y2, y3, y4, y5, y6], _ =>
      obtain ⟨a0, k0, q0, p0⟩ := h0.go (show DataW.trod enc P w base spare held n f0.type ((cs.drop f0.offset).take (P.cellsOf f0.type)) = some y0 from by simpa using hf 0 f0 rfl)
      rw [ho0, h0.sz] at k0
      obtain ⟨a1, k1, q1, p1⟩ := h1.go (show DataW.trod enc P w base spare held n f1.type ((cs.drop f1.offset).take (P.cellsOf f1.type)) = some y1 from by simpa using hf 1 f1 rfl)
      rw [ho1, h1.sz] at k1
      obtain ⟨a2, k2, q2, p2⟩ := h2.go (show DataW.trod enc P w base spare held n f2.type ((cs.drop f2.offset).take (P.cellsOf f2.type)) = some y2 from by simpa using hf 2 f2 rfl)
      rw [ho2, h2.sz] at k2
      obtain ⟨a3, k3, q3, p3⟩ := h3.go (show DataW.trod enc P w base spare held n f3.type ((cs.drop f3.offset).take (P.cellsOf f3.type)) = some y3 from by simpa using hf 3 f3 rfl)
      rw [ho3, h3.sz] at k3
      obtain ⟨a4, k4, q4, p4⟩ := h4.go (show DataW.trod enc P w base spare held n f4.type ((cs.drop f4.offset).take (P.cellsOf f4.type)) = some y4 from by simpa using hf 4 f4 rfl)
      rw [ho4, h4.sz] at k4
      obtain ⟨a5, k5, q5, p5⟩ := h5.go (show DataW.trod enc P w base spare held n f5.type ((cs.drop f5.offset).take (P.cellsOf f5.type)) = some y5 from by simpa using hf 5 f5 rfl)
      rw [ho5, h5.sz] at k5
      obtain ⟨a6, k6, q6, p6⟩ := h6.go (show DataW.trod enc P w base spare held n f6.type ((cs.drop f6.offset).take (P.cellsOf f6.type)) = some y6 from by simpa using hf 6 f6 rfl)
      rw [ho6, h6.sz] at k6
      refine ⟨(a0, a1, a2, a3, a4, a5, a6), ⟨_, _, ?_, k0, _, _, rfl, k1, _, _, rfl, k2, _, _, rfl, k3, _, _, rfl, k4, _, _, rfl, k5, k6⟩, ⟨q0, q1, q2, q3, q4, q5, q6⟩, ?_⟩
      · rw [List.drop_zero]
        have hd : (cs.drop (d0.sz + d1.sz + d2.sz + d3.sz + d4.sz + d5.sz)).take d6.sz = cs.drop (d0.sz + d1.sz + d2.sz + d3.sz + d4.sz + d5.sz) := List.take_of_length_le (by rw [List.length_drop]; omega)
        rw [hd, seg_join, seg_join, seg_join, seg_join, seg_join, List.take_append_drop]
      · simp only [List.map_cons, List.map_nil, Rows.uptoBulk, Rows.uptoBulkAll]
        omega
/-- a kind that is told by a structure of its own -/
theorem opens_iso {P : Program} {t : TypeId} {α β : Type} {d : Kd α} {good : α → Prop} {bulk : α → Nat} (h : Opens P t d good bulk) (f : β → α) (g : α → β) (hfg : ∀ a, f (g a) = a) : Opens P t (Kd.iso d f) (fun x => good (f x)) (fun x => bulk (f x)) where
  sz := h.sz
  one := fun x => h.one (f x)
  go := by
    intro H enc w base spare held fuel cs x hx
    obtain ⟨a, k, q, p⟩ := h.go hx
    refine ⟨g a, ?_, ?_, ?_⟩
    · show d.K w (f (g a)) cs
      rw [hfg]; exact k
    · rw [hfg]; exact q
    · rw [hfg]; exact p
/-- an argument's bulk, of the whole's -/
theorem bulk_bound {H : Type} {ds : List (DataW H)} (hk : Rows.uptoSmall H ds = true) : Rows.uptoBulkAll ds ≤ 1048576 := of_decide_eq_true hk

end Go.Proofs.Ytdoolmomkffdaaa.G

/- Printed by the session's program over the kit's print, out of the translation: functions as plain Lean functions, and the proofs that the calls come to them. -/
namespace Go.Proofs.Ytdoolmomkffdaaa.G
open Go.RowKit Go.Proofs.YtdoolmomkffdaaaW.PrintWords Go.Proofs.YtdoolmomkffdaaaW.PrintLast Go.Proofs.YtdoolmomkffdaaaW.PrintMore
attribute [local go_sem] max2_int min2_int max_two min_two max_three min_three max_four min_four   -- for this text's walks alone
set_option linter.unusedVariables false
set_option linter.unusedSimpArgs false

/-! ### morainelaw03_names: function 16 -/
def morainelaw03_names.f  : Option (Bool) := some true
set_option maxHeartbeats 8000000 in
set_option maxRecDepth 100000 in
theorem morainelaw03_names.calls  (r : Bool) (w : World) (h : morainelaw03_names.f  = some r) :
    Calls Try.prog 16 #[] w fun e w' => e = .returned (.bool r) ∧ Drawn0 w w' := by
  have H : (some true) = some r := h
  clear h
  obtain rfl := Option.some.inj H
  go_enter Try.func16, Try.ntmps16
  go_wp2
  go_ret
  exact ⟨by first | rfl | (simp; done) | (simp [*]; done), by repeat (first | exact Drawn0.refl _ | apply Drawn0.step)⟩

end Go.Proofs.Ytdoolmomkffdaaa.G

/- Contracts typed by hand: the law IkeyCodes: its walk and its plain part -/
namespace Go.Proofs.Ytdoolmomkffdaaa.G
open Go.RowKit Go.Proofs.YtdoolmomkffdaaaW.PrintWords Go.Proofs.YtdoolmomkffdaaaW.PrintLast Go.Proofs.YtdoolmomkffdaaaW.PrintMore
attribute [local go_sem] max2_int min2_int max_two min_two max_three min_three max_four min_four
set_option linter.unusedVariables false
set_option linter.unusedSimpArgs false

/-! the law IkeyCodes: its walk and its plain part -/
theorem lent_len (l : List Int) : (l ++ [(90 : Int)]).length = l.length + 1 := by simp
theorem C_prefix {w : World} {A : Option Addr} {xs ys : List Int} (h : Kd.C (Kd.int .u8) w A (xs.length + ys.length) (xs ++ ys)) : Kd.C (Kd.int .u8) w A xs.length xs := by
  rw [← List.length_append] at h
  have h1 := Kd.C_take (m := xs.length) h (by simp)
  rwa [List.take_left] at h1
theorem refkind_some (a : Int) : moraineref03_kind.f a = some (decide (a = 0 ∨ a = 1 ∨ a = 2 ∨ a = 255)) := by
  unfold moraineref03_kind.f
  split
  · simp [*]
  · split
    · simp [*]
    · split
      · simp [*]
      · congr 1
        rw [Bool.eq_iff_iff]
        simp only [beq_iff_eq, decide_eq_true_eq]
        omega
theorem refunpack_eq (v : Int) (h0 : 0 ≤ v) (h1 : v < 18446744073709551616) : moraineref03_Unpack.f v = some (if kindB (v % 256) = true then (v / 256, v % 256, 0) else (0, 0, 30)) := by
  unfold moraineref03_Unpack.f
  have w : wrap64 (Int.tmod v 256) = v % 256 := by rw [Int.tmod_eq_emod_of_nonneg h0]; unfold wrap64; omega
  have w2 : IntKind.u64.wrap (Int.tdiv v 256) = v / 256 := by rw [Int.tdiv_eq_ediv_of_nonneg h0, Go.IntKind.wrap_u64]; omega
  rw [w, w2, refkind_some, Option.bind_some]
  unfold kindB
  split <;> rfl
theorem refdecode_eq (k : Nat) (l : List Int) (hb : Bytes l) (hl : l.length ≤ 1099511627776) (hk : 10 ≤ k) : moraineref03_Decode.f k l = some (decR l) := by
  unfold moraineref03_Decode.f decR
  rw [if_pos (by omega)]
  by_cases h1 : l.length < 9
  · rw [if_pos (by omega), if_pos h1]
  · rw [if_neg (by omega), if_neg h1]
    by_cases h2 : l.length > 1032
    · rw [if_pos h2, if_pos (by omega)]
    · rw [if_neg h2, if_neg (by omega)]
      have hf := reffixed_eq l ((l.length : Int) - 8) 8 k hb (by omega) (by omega) (by omega)
      rw [fixv_last l (by omega)] at hf
      have hs := le_small (seg l (l.length - 8) 8) (seg_bytes hb _ _) 8 (by unfold seg; rw [List.length_take]; omega) (by omega)
      have hf2 : moraineref01_ReadFixed.f k l ((l.length : Int) - 8) 8 = some (le (seg l (l.length - 8) 8), (l.length : Int), 0) := hf
      rw [hf2, Option.bind_some, refunpack_eq _ hs.1 hs.2, Option.bind_some]
      by_cases h3 : kindB (le (seg l (l.length - 8) 8) % 256) = true
      · rw [if_pos h3, if_pos h3, if_pos rfl]
      · rw [if_neg h3, if_neg h3, if_neg (by decide)]
theorem nums_snoc (l : List Int) : strOfNums (l ++ [90]) = strOfNums l ++ (⟨#[90]⟩ : ByteArray) := by
  unfold strOfNums
  apply ByteArray.ext
  simp
set_option maxHeartbeats 8000000 in
set_option maxRecDepth 100000 in
theorem IkeyCodes_calls (a : ByteArray) (s t : Int) (A1 : Option Addr) (c1 : Nat) (l1 : List Int) (w : World) (hr1 : Kd.C (Kd.int .u8) w A1 l1.length l1) (hc1 : l1.length ≤ c1) (s0 : 0 ≤ s) (hb1 : Bytes l1) (hl1 : l1.length ≤ 2097152) :
    Calls Try.prog 7 #[.agg #[.string a, .int .u64 s, .int .i64 t], .slice A1 l1.length c1] w fun e w' => e = .returned (.bool true) ∧ Below w.heap.size w w' := by
  have hu := Try.underlying35
  have HR := Aside0.mk hr1
  have HC := Aside0.mk hc1
  have HS0 := Aside0.mk s0
  have HL := Aside0.mk hl1
  have HI := Aside0.mk (show (Try.prog.info? 5).map (fun i => (i.zero, i.size, i.bytes)) = some (some (.int .u8 0), 1, 1) by kernel_rfl)
  have HE := Aside0.mk (encode_eq 12 a s t s0 (by omega))
  have HD := Aside0.mk (decode_eq 12 l1 hb1 (by omega) (by omega))
  have HRD := Aside0.mk (refdecode_eq 12 l1 hb1 (by omega) (by omega))
  have HREF := Aside0.mk (fun W => refEncode_calls a s t W s0)
  have HXL := Aside0.mk (show (encK a s t).1.length ≤ 2000 by
    unfold encK
    split
    · rename_i h
      have := validOf_parts h
      rw [List.length_append, bytesOf_length, fixF_len]
      omega
    · simp)
  generalize hx : encK a s t = X at *
  obtain ⟨x, f⟩ := X
  generalize hd : decR l1 = q at *
  obtain ⟨d0, d1, d2, d3⟩ := q
  have hsn := nums_snoc l1
  have HSN := Aside0.mk hsn
  clear hx hd hr1 hc1 s0 hb1 hl1 hsn
  go_enter Try.func7, Try.ntmps7
  go_wp2_with fail
  (with_reducible refine (ikey_Encode.calls 12 a s t _ _ _ HE.out).mono ?_)
  rintro e w1 ⟨v1, rfl, ho, hb⟩
  have HA1 := Aside0.mk ho
  have HB1 := Aside0.mk (below_step (below_alloc (Below.refl w.heap.size w) _) hb)
  have hcc := (bcell hb).1
  have HZ1 := Aside0.mk (show w.heap.size + 1 ≤ w1.heap.size by have := hb.size; simp at this; omega)
  have k0 : w1.cell? ⟨w.heap.size, 0, none⟩ = some (.string a) := by rw [hcc _ _ (by simp)]; go_simp
  have k1 : w1.cell? ⟨w.heap.size, 1, none⟩ = some (.int .u64 s) := by rw [hcc _ _ (by simp)]; go_simp
  have k2 : w1.cell? ⟨w.heap.size, 2, none⟩ = some (.int .i64 t) := by rw [hcc _ _ (by simp)]; go_simp
  clear ho hb hcc
  go_wp2_with fail
  (with_reducible refine (ikey_Encode.calls 12 a s t _ _ _ HE.out).mono ?_)
  rintro e w2 ⟨v2, rfl, ho, hb⟩
  have HA2 := Aside0.mk (Kd.R_newR ho HA1.out)
  have HA1 := Aside0.mk (Kd.R_below HA1.out hb)
  have HB2 := Aside0.mk (below_step HB1.out hb)
  have k0 := pw_cell_below hb k0
  have k1 := pw_cell_below hb k1
  have k2 := pw_cell_below hb k2
  have HLT := Aside0.mk (fun k (hk : some k = v1.ownBlock) => Kd.R_lt HA1.out k hk.symm)
  clear ho hb
  go_wp2_with fail
  (with_reducible refine (HREF.out _).mono ?_)
  rintro e w3 ⟨A3, c3, rfl, ho, hc3, hb⟩
  have HX3 := Aside0.mk ho
  have HC3 := Aside0.mk hc3
  have HA1 := Aside0.mk (Kd.R_below HA1.out hb)
  have HA2 := Aside0.mk (Kd.R_below HA2.out hb)
  have HB3 := Aside0.mk (below_step HB2.out hb)
  have HS3 := Aside0.mk hb.size
  have hcv3 := Kd.C_string (P := Try.prog) (w := w3) (A := A3) (c := c3) Try.underlying47 Try.underlying5 Try.underlying9 (ho w3 (fun _ _ _ => rfl))
  clear ho hb hc3 k0 k1 k2
  have hcv1 := own_string (P := Try.prog) Try.underlying47 Try.underlying5 Try.underlying9 (Kd.own_of_R HA1.out)
  obtain ⟨B1, d5, rfl⟩ := Kd.R_slice HA1.out
  obtain ⟨B2, d6, rfl⟩ := Kd.R_slice HA2.out
  generalize hn : x.length = n at *
  have HN := Aside0.mk hn
  have HRL2 := HXL.out
  clear hn
  go_wp2
  clear hcv1 hcv3
  go_loopw [11] (fun v11 wr => ∃ (j : Nat) (xs : List Int), v11 = .int .i64 (j : Int) ∧ j ≤ n ∧ Aside0 (xs.length = n) ∧ Aside0 (Kd.R (Kd.int .u8) 5 wr w.heap.size (fun _ => True) (.slice B1 n d5) xs) ∧ Aside0 (Kept w3 wr (fun k_ => some k_ = (Value.slice B1 n d5).ownBlock)) ∧ Aside0 (Below w.heap.size w wr)) (fun v11 _ => n - (intOf v11).toNat)
  case atStart => exact ⟨0, x, rfl, by omega, HN, ⟨Kd.R_lower HA1.out (by simp)⟩, ⟨Kept.refl _ _⟩, HB3⟩
  case round =>
    obtain ⟨j, xs, rfl, hjn, HXL1, HX, HK, HB⟩ := hrel
    by_cases hlt : j < n
    · have b1 : decide ((j : Int) < (n : Int)) = true := decide_eq_true (by omega)
      have hxl := HXL1.out
      obtain ⟨g, cg, eg, gb, gl, cl, HG⟩ := Kd.R_form HX.out (by omega)
      injection eg with ea en ec
      subst ea
      clear en ec
      have GB := Aside0.mk gb
      have hxx := Kd.R_celln 0 HX.out (j : Int) (by omega) (by omega)
      obtain ⟨hx, hf⟩ := hxx
      rw [Int.toNat_natCast] at hx hf
      obtain ⟨u, hu⟩ : ∃ u, rdOf 0 xs (j : Int) = u := ⟨_, rfl⟩
      rw [hu] at hx
      clear hu
      have HP := Kd.R_putg HX.out (j : Int) (IntKind.u8.wrap (u + 1))
      rw [Int.toNat_natCast] at HP
      have HP2 := Aside0.mk HP
      have ew : wrap64 ((j : Int) + 1) = ((j + 1 : Nat) : Int) := by unfold wrap64; omega
      have hxl2 : (xs.set j (IntKind.u8.wrap (u + 1))).length = n := by rw [List.length_set]; exact hxl
      have HXL2 := Aside0.mk hxl2
      clear HG gb gl HP hxl hxl2
      go_wp2_with (first | ((with_reducible refine gate_store (t := 5) (p := 58) rfl ?_); refine store_event (t := 5) (p := 58) (v := ?vo) (w1 := (wr.setCell ⟨g, j, none⟩ (.int .u8 (IntKind.u8.wrap (u + 1))))) ?hg ?ho ?hn ?hr ?_; (case ho => rfl); (case hg => rfl); (case hn => rfl); (case hr => first | (go_simp; done) | (go_simp; rfl)); intro w13 hw; have HX2 := Aside0.mk (show Kd.R (Kd.int .u8) 5 w13 w.heap.size (fun _ => True) (.slice (some ⟨g, 0, none⟩) n d5) (xs.set j (IntKind.u8.wrap (u + 1))) by rw [hw]; exact HP2.out.1); have HG13 := Aside0.mk (show wr.grownBy w13 (some g) by rw [hw]; exact HP2.out.2); have HK13 := Aside0.mk (Kept.of_grown HG13.out HK.out (fun k_ e_ => .inl e_.symm)); have HB13 := Aside0.mk (HB.out.grown HG13.out HB.out.size (fun k_ e_ => (Option.some.inj e_) ▸ GB.out)); clear hw))
      go_roundw
      case rel => exact ⟨j + 1, _, by go_num, by omega, HXL2, HX2, HK13, HB13⟩
      case measure => simp only [intOf]; omega
    · have b1 : decide ((j : Int) < (n : Int)) = false := decide_eq_false (by omega)
      have HA2 := Aside0.mk (Kd.R_kept HA2.out HK.out (fun k_ hk he => hk.2 he))
      have hC3 := HX3.out wr (fun k hk hl => HK.out.2 k hl (fun he => by have := HLT.out k he; omega))
      (try rw [HN.out] at hC3)
      have HX3 := Aside0.mk hC3
      have HBR := Aside0.mk (Below.refl wr.heap.size wr)
      have HRR := Aside0.mk (Kd.C_below HR.out HB.out)
      have hl2 := HL.out
      clear hC3
      go_wp2_with (first
        | ((with_reducible refine gate_dst (N := 59) rfl ?_); refine Kd.R_lit (Kd.int .u8) _ 5 ?hg (N := 59) ?hd (xs := ([] : List Int)) (inner := []) (ok := fun _ => True) (okp := fun _ => True) ?hr ?hp (fun _ hk => hk) trivial (Below.refl _ _) (Nat.le_refl _) (by simp) ?_; (case hd => rfl); (case hg => rfl); (case hr => first | (go_simp; done) | (go_simp; rfl)); (case hp => exact (Reps.none _ _)); intro v59 w16 ho hb hg_ hnew_; clear hg_ hnew_; have HO16 := Aside0.mk ho; have HN16 := Aside0.mk hb; clear hb ho)
        | ((with_reducible refine gate_builtin (b := .append) (xs := #[.tmp 59, .tmp 60]) rfl ?_); at_builtin; refine Kd.R_append_rows (Kd.int .u8) (w0 := wr) wr.heap.size rfl (.tmp 59) (.tmp 60) 47 5 (.int .u8 0) 1 rfl Try.underlying47 HI.out rfl (by decide) (by omega) v59 [] l1 _ _ _ (fun _ => True) (fun _ => False) rfl rfl ?aO ?aR (fun _ _ h => h) (fun _ h => h.elim) (fun _ _ => trivial) ?aB ?aS ?aL ?_; (case aR => exact (Kd.C_below HRR.out HN16.out)); (case aB => exact HN16.out); (case aO => exact HO16.out); (case aS => exact HN16.out.size); (case aL => simp; omega); intro v61 w17 ho hb hg hat; rw [List.nil_append] at ho; have HO17 := Aside0.mk ho; have HN17 := Aside0.mk hb; clear ho hb hg hat)
        | ((with_reducible refine gate_builtin (b := .append) (xs := #[.tmp 61, .tmp 62]) rfl ?_); at_builtin; refine Kd.R_append (Kd.int .u8) (w0 := wr) wr.heap.size rfl (.tmp 61) (.tmp 62) 47 5 (.int .u8 0) 1 rfl Try.underlying47 HI.out rfl (by decide) (by omega) v61 l1 90 [.int .u8 90] (fun _ => True) (fun _ => False) rfl rfl ?aP (fun _ hk => hk.elim) (fun _ _ => trivial) ?aO ?aB ?aS ?aL ?_; (case aP => exact rfl); (case aB => exact HN17.out); (case aO => exact HO17.out); (case aS => exact HN17.out.size); (case aL => omega); intro v63 w18 ho hb hg hat; obtain ⟨A5, c5, e5⟩ := Kd.R_slice ho; subst e5; rw [lent_len] at ho; have ho3 := Kd.R_reads' ho; rw [lent_len] at ho3; have HC5 := Aside0.mk ho3.2.1; have HO5 := Aside0.mk ho3.2.2; have HN18 := Aside0.mk hb; rw [lent_len]; obtain ⟨i011, hi011, _, hsz11, _⟩ := info_parts HI.out; have hcut := cut_to (P := Try.prog) 47 5 .i64 Try.underlying47 hi011 A5 (l1.length + 1) c5 (l1.length : Int) (by omega) (by omega) HC5.out; rw [Int.toNat_natCast] at hcut; clear hi011 hsz11 ho ho3 hb hg hat))
      (with_reducible refine (ikey_Decode.calls 12 A5 c5 l1 _ _ _ _ _ (C_prefix (ys := [90]) HO5.out) (Nat.le_of_succ_le HC5.out) HD.out).mono ?_)
      rintro e w19 ⟨rfl, hb⟩
      have HN19 := Aside0.mk (below_step HN18.out hb)
      have HO5 := Aside0.mk (Kd.C_below HO5.out hb)
      clear hb hcut
      go_wp2_with fail
      (with_reducible refine (moraineref03_Decode.calls 12 A1 c1 l1 _ _ _ _ _ (Kd.C_below HRR.out (below_alloc HN19.out _)) HC.out HRD.out).mono ?_)
      rintro e w20 ⟨rfl, hb⟩
      have HN20 := Aside0.mk (below_step (below_alloc HN19.out _) hb)
      have HO5 := Aside0.mk (Kd.C_below (Kd.C_alloc HO5.out _) hb)
      have hcc := (bcell hb).1
      have m0 : w20.cell? ⟨w19.heap.size, 0, none⟩ = some (.string d0) := by rw [hcc _ _ (by simp)]; go_simp
      have m1 : w20.cell? ⟨w19.heap.size, 1, none⟩ = some (.int .u64 d1) := by rw [hcc _ _ (by simp)]; go_simp
      have m2 : w20.cell? ⟨w19.heap.size, 2, none⟩ = some (.int .i64 d2) := by rw [hcc _ _ (by simp)]; go_simp
      have mz : w19.heap.size < w20.heap.size := by have := hb.size; simp at this; omega
      have HNA := Aside0.mk (below_alloc HN20.out (.cells #[.string d0, .int .u64 d1, .int .i64 d2] 35))
      clear hb hcc
      have hcvA := own_string (P := Try.prog) Try.underlying47 Try.underlying5 Try.underlying9 (Kd.own_of_R (Kd.R_below HA2.out HNA.out))
      have hcvB := Kd.C_string (P := Try.prog) (A := A3) (c := c3) Try.underlying47 Try.underlying5 Try.underlying9 (Kd.C_below HX3.out HNA.out)
      have hcvC := Kd.C_string (P := Try.prog) (A := A5) (c := c5) Try.underlying47 Try.underlying5 Try.underlying9 (Kd.C_alloc HO5.out (.cells #[.string d0, .int .u64 d1, .int .i64 d2] 35))
      have hcvD := Kd.C_string (P := Try.prog) (A := A1) (c := c1) Try.underlying47 Try.underlying5 Try.underlying9 (Kd.C_below HRR.out HNA.out)
      rw [HSN.out] at hcvC
      (try rw [HN.out] at hcvA)
      have hss := nums_size l1
      have hsb : decide ((strOfNums l1).size + 1 ≤ 9223372036854775807) = true := decide_eq_true (by omega)
      go_wp2_with fail
      (with_reducible refine (morainelaw03_names.calls true _ rfl).mono ?_)
      rintro e w21 ⟨rfl, hd⟩
      have HB21 := Aside0.mk (below_step HB.out (below_step HNA.out hd.below))
      clear hd
      go_wp2
      go_ret
      exact ⟨by simp, HB21.out⟩
theorem IkeyCodes_upto (w : World) (cs0 : Array Value) (x0 : (ByteArray × Int × Int)) (hK0 : (Kd.pair Kd.string (Kd.pair (Kd.int .u64) (Kd.int .i64))).K w x0 cs0.toList) (hg0 : x0.1.size ≤ maxLen ∧ (Lit.int .u64 x0.2.1).wf = true ∧ (Lit.int .i64 x0.2.2).wf = true)
    (A1 : Option Addr) (c1 : Nat) (l1 : List Int) (hc1 : l1.length ≤ c1) (hr1 : Kd.C (Kd.int .u8) w A1 l1.length l1) (hg1 : ∀ x ∈ l1, (Lit.int .u8 x).wf = true)
    (hbulk : (x0.1.size + 1 + 1 + 1 + 1) + ((sumBulk (fun _ => 1) l1 + 1)) ≤ 1048576) :
    Calls Try.prog 7 #[.agg cs0, .slice A1 l1.length c1] w fun e w' => e = .returned (.bool true) ∧ Below w.heap.size w w' := by
  obtain ⟨a, s, t⟩ := x0
  have hcs := open_ikey hK0
  subst hcs
  have n1 := sumBulk_len (fun _ => 1) (fun _ => Nat.le_refl 1) l1
  have hs : 0 ≤ s ∧ s ≤ 18446744073709551615 := by simpa [Lit.wf, IntKind.min, IntKind.max, IntKind.signed, IntKind.bits] using hg0.2.1
  exact IkeyCodes_calls a s t A1 c1 l1 w hr1 hc1 hs.1 (bytes_of_wf hg1) (by omega)

end Go.Proofs.Ytdoolmomkffdaaa.G
