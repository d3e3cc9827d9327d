/- Contracts typed by hand: ikey.Encode: an internal key's bytes (a text as bytes, then codec.PutFixed64) -/
import Derived.Test.YtdoolmomkffdaaaProg
import Derived.Below
import Derived.Deep.Draws
import Derived.Deep.AppendLies
import Derived.Maps.AppendAt
import Derived.OwnWalk
import Derived.Laws.BytesArg
import Derived.Laws.MakeOwn
import Derived.Laws.OwnMore
import Derived.Deep.OwnRows
import Derived.Tactics
import Derived.Lib.ConvBytes
import Derived.Laws.Slices
import Derived.WalkKit
import Derived.KernelRfl
import Derived.RowKit3
import Derived.Deep.LoopGhost
import Derived.Deep.QuietTactic
import Derived.BigQuiet
import Derived.WideLaws
import Derived.Deep.DeepCutAuto
import Derived.Deep.CutBlock
import Derived.Deep.RegionHeld3
import Derived.Laws.Rows
import Derived.Lib.AppendStr
import Derived.ArgAppend
import Derived.Laws.IdiomCopy
import Derived.OrdersHeld
import Derived.Laws.BitsLemmas
import Derived.RowKit
import Derived.Test.YtdoolmomkffdaaaWWords
import Derived.Test.YtdoolmomkffdaaaWLast
import Derived.Test.YtdoolmomkffdaaaWTab
import Derived.Test.YtdoolmomkffdaaaWFour
import Derived.Test.YtdoolmomkffdaaaWQPut
import Derived.Test.YtdoolmomkffdaaaWApart
import Derived.Test.YtdoolmomkffdaaaWArr
import Derived.Test.YtdoolmomkffdaaaWZeros
import Derived.Test.YtdoolmomkffdaaaWFoot
import Derived.Test.YtdoolmomkffdaaaWKept
import Derived.Test.YtdoolmomkffdaaaWShare
import Derived.Test.YtdoolmomkffdaaaWN
import Derived.Test.YtdoolmomkffdaaaWFootNe
import Derived.Test.YtdoolmomkffdaaaWAt
import Derived.Test.YtdoolmomkffdaaaWEqStruct
import Derived.Test.YtdoolmomkffdaaaWRepsOne
import Derived.Test.YtdoolmomkffdaaaWInv
import Derived.Test.YtdoolmomkffdaaaWInvWords
import Derived.Test.YtdoolmomkffdaaaWGuard
import Derived.Test.YtdoolmomkffdaaaWNEv
import Derived.Test.YtdoolmomkffdaaaWMore
import Derived.Test.YtdoolmomkffdaaaGx14
import Derived.Test.YtdoolmomkffdaaaGx23
import Derived.Test.YtdoolmomkffdaaaGx25
namespace Go.Proofs.Ytdoolmomkffdaaa.G
open Go.RowKit Go.Proofs.YtdoolmomkffdaaaW.PrintWords Go.Proofs.YtdoolmomkffdaaaW.PrintLast Go.Proofs.YtdoolmomkffdaaaW.PrintMore
attribute [local go_sem] max2_int min2_int max_two min_two max_three min_three max_four min_four
set_option linter.unusedVariables false
set_option linter.unusedSimpArgs false

/-! ikey.Encode: an internal key's bytes (a text as bytes, then codec.PutFixed64) -/
theorem bcell {W w1 : World} (hb : Below W.heap.size W w1) : (∀ b o, b < W.heap.size → w1.cell? ⟨b, o, none⟩ = W.cell? ⟨b, o, none⟩) ∧ (∀ b o, b < W.heap.size → w1.frozen? ⟨b, o, none⟩ = W.frozen? ⟨b, o, none⟩) :=
  ⟨fun b o h => hb.cell (p := ⟨b, o, none⟩) h, fun b o h => hb.frozen (p := ⟨b, o, none⟩) h⟩
def ikey_Encode.f (k : Nat) (a0 : ByteArray) (a1 a2 : Int) : Option (List Int × Int) := (ikey_Valid.f a0 a1 a2).bind fun b => if b = true then (if a0.size ≤ 9223372036854775807 then (ikey_Pack.f a1 a2).bind fun p => (codec_PutFixed64.f k (bytesOf a0) p.1).bind fun r => some (r, 0) else none) else some ([], 2)
theorem ikey_Encode.mono : ∀ a0 a1 a2 k, LeO (ikey_Encode.f k a0 a1 a2) (ikey_Encode.f (k + 1) a0 a1 a2) := by
  intro a0 a1 a2 k
  unfold ikey_Encode.f
  exact LeO.bind (LeO.refl _) fun _ => LeO.ite (LeO.ite (LeO.bind (LeO.refl _) fun _ => LeO.bind (codec_PutFixed64.mono _ _ _) fun _ => LeO.refl _) (LeO.refl _)) (LeO.refl _)
theorem put_bytes (k : Nat) (s : ByteArray) (v : Int) (r : List Int) (W : World) (c g : Nat) (hg : g = W.heap.size) (hs : s.size ≤ 9223372036854775807) (hc : s.size ≤ c) (h : codec_PutFixed64.f k (bytesOf s) v = some r) :
    Calls Try.prog 42 #[.slice (some ⟨g, 0, none⟩) s.size c, .int .u64 v] (Lib.bytesWorld W 5 s) fun e w' => ∃ v0_ : Value, e = .returned v0_ ∧ Kd.R (Kd.int .u8) 5 w' (Lib.bytesWorld W 5 s).heap.size (fun _ => True) v0_ r ∧ Below (Lib.bytesWorld W 5 s).heap.size (Lib.bytesWorld W 5 s) w' := by
  subst hg
  have hC : Kd.C (Kd.int .u8) (Lib.bytesWorld W 5 s) (some ⟨W.heap.size, 0, none⟩) (bytesOf s).length (bytesOf s) := by
    rw [bytesOf_length]
    exact Kd.C_of_reads (d := (0 : Int)) (h1 := fun _ => rfl) (bytes_reads W 5 s hs)
  have := codec_PutFixed64.calls k (some ⟨W.heap.size, 0, none⟩) c (bytesOf s) v r (Lib.bytesWorld W 5 s) hC (by rw [bytesOf_length]; exact hc) h
  rw [bytesOf_length] at this
  exact this
set_option maxHeartbeats 4000000 in
set_option maxRecDepth 100000 in
theorem ikey_Encode.calls (k : Nat) (a0_0 : ByteArray) (a0_1 : Int) (a0_2 : Int) (r1 : List Int) (r2 : Int) (w : World) (h : ikey_Encode.f k a0_0 a0_1 a0_2 = some (r1, r2)) :
    Calls Try.prog 23 #[.agg #[.string a0_0, .int .u64 a0_1, .int .i64 a0_2]] w fun e w' => ∃ v0_ : Value, e = .returned (.tuple #[v0_, .int .i64 r2]) ∧ Kd.R (Kd.int .u8) 5 w' w.heap.size (fun _ => True) v0_ r1 ∧ Below w.heap.size w w' := by
  have hu35 := Try.underlying35
  unfold ikey_Encode.f at h
  obtain ⟨b, hb, H⟩ := Option.bind_eq_some_iff.1 h
  have HV := Aside0.mk hb
  clear h hb
  cases b with
  | false =>
    rw [if_neg Bool.false_ne_true] at H
    simp only [Option.some.injEq, Prod.mk.injEq] at H
    obtain ⟨rfl, rfl⟩ := H
    go_enter Try.func23, Try.ntmps23
    go_wp2_with fail
    (with_reducible refine (ikey_Valid.calls _ _ _ false _ HV.out).mono ?_)
    rintro e w1 ⟨rfl, hb⟩
    have HB1 := Aside0.mk (below_step (below_alloc (Below.refl w.heap.size w) _) hb)
    clear hb
    go_wp2
    go_ret2
    exact ⟨_, rfl, Kd.R_nil _ _ _ _ _, HB1.out⟩
  | true =>
    rw [if_pos rfl] at H
    by_cases hs : a0_0.size ≤ 9223372036854775807
    · rw [if_pos hs] at H
      obtain ⟨p, hp, H2⟩ := Option.bind_eq_some_iff.1 H
      obtain ⟨r, hr, H3⟩ := Option.bind_eq_some_iff.1 H2
      simp only [Option.some.injEq, Prod.mk.injEq] at H3
      obtain ⟨rfl, rfl⟩ := H3
      obtain ⟨p1, p2⟩ := p
      have HP := Aside0.mk hp
      have HR := Aside0.mk (show codec_PutFixed64.f k (bytesOf a0_0) p1 = some r from hr)
      have HS := Aside0.mk hs
      clear H H2 hp hr hs
      have kb := fun W => print_bytes (P := Try.prog) 9 47 5 Try.underlying9 Try.underlying47 Try.underlying5 a0_0 W
      go_enter Try.func23, Try.ntmps23
      go_wp2_with fail
      (with_reducible refine (ikey_Valid.calls _ _ _ true _ HV.out).mono ?_)
      rintro e w1 ⟨rfl, hb⟩
      have HB1 := Aside0.mk (below_step (below_alloc (Below.refl w.heap.size w) _) hb)
      have hc := (bcell hb).1
      have hz : w.heap.size < w1.heap.size := by have := hb.size; simp at this; omega
      clear hb
      go_wp2_with fail
      (with_reducible refine (ikey_Pack.calls _ _ _ _ _ HP.out).mono ?_)
      rintro e w2 ⟨rfl, ⟨nd, rfl⟩⟩
      go_wp2_with fail
      (with_reducible refine (put_bytes k a0_0 p1 r (w1.drewN nd) _ w1.heap.size ?hg HS.out ?hc HR.out).mono ?_)
      case hg => rfl
      case hc => exact grownCap_ge _ _ _ _
      rintro e w3 ⟨v3, rfl, ho, hb⟩
      have HB3 := Aside0.mk (below_step (bytes_below (pw_below_drewN HB1.out nd) (by have := HB1.out.size; exact this) 5 a0_0) hb)
      have HO3 := Aside0.mk (Kd.R_lower ho (bytes_below (pw_below_drewN HB1.out nd) (by have := HB1.out.size; exact this) 5 a0_0).size)
      clear ho hb
      go_wp2
      go_ret2
      exact ⟨_, rfl, HO3.out, HB3.out⟩
    · rw [if_neg hs] at H
      cases H

end Go.Proofs.Ytdoolmomkffdaaa.G
