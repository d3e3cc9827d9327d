/- Contracts typed by hand: morainelaw04.copied: operations in memory of their own, one behind their end -/
import Derived.Test.YthkooncibfkepaaProg
import Derived.Below
import Derived.Deep.Draws
import Derived.Deep.AppendLies
import Derived.Maps.AppendAt
import Derived.OwnWalk
import Derived.Laws.BytesArg
import Derived.Laws.MakeOwn
import Derived.Laws.OwnMore
import Derived.Deep.OwnRows
import Derived.Tactics
import Derived.Lib.ConvBytes
import Derived.Laws.Slices
import Derived.WalkKit
import Derived.KernelRfl
import Derived.RowKit3
import Derived.Deep.LoopGhost
import Derived.Deep.QuietTactic
import Derived.BigQuiet
import Derived.WideLaws
import Derived.Deep.DeepCutAuto
import Derived.Deep.CutBlock
import Derived.Deep.RegionHeld3
import Derived.Laws.Rows
import Derived.Lib.AppendStr
import Derived.ArgAppend
import Derived.Laws.IdiomCopy
import Derived.OrdersHeld
import Derived.Laws.BitsLemmas
import Derived.RowKit
import Derived.Test.YthkooncibfkepaaWWords
import Derived.Test.YthkooncibfkepaaWLast
import Derived.Test.YthkooncibfkepaaWTab
import Derived.Test.YthkooncibfkepaaWFour
import Derived.Test.YthkooncibfkepaaWQPut
import Derived.Test.YthkooncibfkepaaWApart
import Derived.Test.YthkooncibfkepaaWArr
import Derived.Test.YthkooncibfkepaaWZeros
import Derived.Test.YthkooncibfkepaaWFoot
import Derived.Test.YthkooncibfkepaaWKept
import Derived.Test.YthkooncibfkepaaWShare
import Derived.Test.YthkooncibfkepaaWN
import Derived.Test.YthkooncibfkepaaWFootNe
import Derived.Test.YthkooncibfkepaaWAt
import Derived.Test.YthkooncibfkepaaWEqStruct
import Derived.Test.YthkooncibfkepaaWRepsOne
import Derived.Test.YthkooncibfkepaaWInv
import Derived.Test.YthkooncibfkepaaWInvWords
import Derived.Test.YthkooncibfkepaaWGuard
import Derived.Test.YthkooncibfkepaaWNEv
import Derived.Test.YthkooncibfkepaaWMore
import Derived.Test.YthkooncibfkepaaGx16
namespace Go.Proofs.Ythkooncibfkepaa.G
open Go.RowKit Go.Proofs.YthkooncibfkepaaW.PrintWords Go.Proofs.YthkooncibfkepaaW.PrintLast Go.Proofs.YthkooncibfkepaaW.PrintMore
attribute [local go_sem] max2_int min2_int max_two min_two max_three min_three max_four min_four
set_option linter.unusedVariables false
set_option linter.unusedSimpArgs false

/-! morainelaw04.copied: operations in memory of their own, one behind their end -/
def mark04 : S65 := ⟨77, ⟨#[]⟩, ⟨#[]⟩⟩
theorem mark04_len (l : List S65) : (l ++ [mark04]).length = l.length + 1 := by simp
set_option maxHeartbeats 4000000 in
theorem morainelaw04_copied.calls (A0 : Option Addr) (c0 : Nat) (l0 : List S65) (w : World) (hr0 : Kd.C k65 w A0 l0.length l0) (hl : l0.length ≤ 2097152) :
    Calls Try.prog 15 #[.slice A0 l0.length c0] w fun e w' => ∃ (A : Option Addr) (c : Nat), e = .returned (.slice A l0.length c) ∧ Kd.R k65 65 w' w.heap.size (fun _ => True) (.slice A (l0.length + 1) c) (l0 ++ [mark04]) ∧ Below w.heap.size w w' := by
  have hu := Try.underlying65
  have HR := Aside0.mk hr0
  clear hr0
  have HL := Aside0.mk hl
  have HB := Aside0.mk (Below.refl w.heap.size w)
  go_enter Try.func15, Try.ntmps15
  go_wp2_with (first | ((with_reducible refine gate_dst (N := 3) rfl ?_); refine Kd.R_lit k65 _ 65 ?hg (N := 3) ?hd (xs := ([] : List S65)) (inner := []) (ok := fun _ => True) (okp := fun _ => True) ?hr ?hp (fun _ hk => hk) trivial (Below.refl _ _) (Nat.le_refl _) (by simp) ?_; (case hd => rfl); (case hg => rfl); (case hr => first | (go_simp; done) | (go_simp; rfl)); (case hp => exact (Reps.none _ _)); intro v102 w6 ho7 hb hg_ hnew_; clear hg_ hnew_; have HO1 := Aside0.mk ho7; have HB1 := Aside0.mk hb; clear hb ho7) | ((with_reducible refine gate_builtin (b := .append) (xs := #[.tmp 3, .tmp 4]) rfl ?_); at_builtin; refine Kd.R_append_rows k65 (w0 := w) w.heap.size rfl (.tmp 3) (.tmp 4) 22 65 (.agg #[(.int .i64 0), (.string ⟨#[]⟩), (.string ⟨#[]⟩)]) 40 rfl Try.underlying22 info65 rfl (by decide) (by omega) v102 [] l0 _ _ _ (fun _ => True) (fun _ => False) rfl rfl ?aO ?aR (fun _ _ h => h) (fun _ h => h.elim) (fun _ _ => trivial) ?aB ?aS ?aL ?_; (case aR => exact (Kd.C_below HR.out HB1.out)); (case aB => exact HB1.out); (case aO => exact HO1.out); (case aS => exact HB1.out.size); (case aL => have := HL.out; simp; omega); intro v105 w8 ho hb hg hat; have HO2 := Aside0.mk ho; have HB2 := Aside0.mk hb; clear ho hb hg hat) | ((with_reducible refine gate_builtin (b := .append) (xs := #[.tmp 5, .tmp 7]) rfl ?_); at_builtin; refine Kd.R_append k65 (w0 := w) w.heap.size rfl (.tmp 5) (.tmp 7) 22 65 (.agg #[(.int .i64 0), (.string ⟨#[]⟩), (.string ⟨#[]⟩)]) 40 rfl Try.underlying22 info65 rfl (by decide) (by omega) v105 ([] ++ l0) mark04 [.int .i64 77, .string (⟨#[]⟩ : ByteArray), .string (⟨#[]⟩ : ByteArray)] (fun _ => True) (fun _ => False) rfl rfl ?aP (fun _ hk => hk.elim) (fun _ _ => trivial) ?aO ?aB ?aS ?aL ?_; (case aP => exact k65_mkM _ _ _ mark04); (case aB => exact HB2.out); (case aO => exact HO2.out); (case aS => exact HB2.out.size); (case aL => have := HL.out; simp; omega); intro v108 w9 ho hb hg hat; have ho2 : Kd.R k65 65 w9 w.heap.size (fun _ => True) v108 (l0 ++ [mark04]) := ho; have HB3 := Aside0.mk hb; clear ho hb hg hat; obtain ⟨Ao10, co10, eo10⟩ := Kd.R_slice ho2; subst eo10; rw [mark04_len] at ho2; have HO3 := Aside0.mk ho2; have hcc : l0.length + 1 ≤ co10 := (Kd.R_reads' ho2).2.1; clear ho2; obtain ⟨i011, hi011, _, hsz11, _⟩ := info_parts info65; rw [mark04_len]; have hcut11 := cut_to (P := Try.prog) 22 65 .i64 Try.underlying22 hi011 Ao10 (l0.length + 1) co10 (l0.length : Int) (by omega) (by omega) hcc; rw [Int.toNat_natCast] at hcut11; clear hi011 hsz11))
  go_ret
  exact ⟨_, _, rfl, HO3.out, HB3.out⟩

end Go.Proofs.Ythkooncibfkepaa.G
