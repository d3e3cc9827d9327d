/- Contracts typed by hand: the walk of the law CodecReads, out of the contracts of what it calls -/
import Derived.Test.YtlfikdpcfoflfaaProg
import Derived.Below
import Derived.Deep.Draws
import Derived.Deep.AppendLies
import Derived.Maps.AppendAt
import Derived.OwnWalk
import Derived.Laws.BytesArg
import Derived.Laws.MakeOwn
import Derived.Laws.OwnMore
import Derived.Deep.OwnRows
import Derived.Tactics
import Derived.Lib.ConvBytes
import Derived.Laws.Slices
import Derived.WalkKit
import Derived.KernelRfl
import Derived.RowKit3
import Derived.Deep.LoopGhost
import Derived.Deep.QuietTactic
import Derived.BigQuiet
import Derived.WideLaws
import Derived.Deep.DeepCutAuto
import Derived.Deep.CutBlock
import Derived.Deep.RegionHeld3
import Derived.Laws.Rows
import Derived.Lib.AppendStr
import Derived.ArgAppend
import Derived.Laws.IdiomCopy
import Derived.OrdersHeld
import Derived.Laws.BitsLemmas
import Derived.RowKit
import Derived.Test.YtlfikdpcfoflfaaWWords
import Derived.Test.YtlfikdpcfoflfaaWLast
import Derived.Test.YtlfikdpcfoflfaaWTab
import Derived.Test.YtlfikdpcfoflfaaWFour
import Derived.Test.YtlfikdpcfoflfaaWQPut
import Derived.Test.YtlfikdpcfoflfaaWApart
import Derived.Test.YtlfikdpcfoflfaaWArr
import Derived.Test.YtlfikdpcfoflfaaWZeros
import Derived.Test.YtlfikdpcfoflfaaWFoot
import Derived.Test.YtlfikdpcfoflfaaWKept
import Derived.Test.YtlfikdpcfoflfaaWShare
import Derived.Test.YtlfikdpcfoflfaaWN
import Derived.Test.YtlfikdpcfoflfaaWFootNe
import Derived.Test.YtlfikdpcfoflfaaWAt
import Derived.Test.YtlfikdpcfoflfaaWEqStruct
import Derived.Test.YtlfikdpcfoflfaaWRepsOne
import Derived.Test.YtlfikdpcfoflfaaWInv
import Derived.Test.YtlfikdpcfoflfaaWInvWords
import Derived.Test.YtlfikdpcfoflfaaWGuard
import Derived.Test.YtlfikdpcfoflfaaWNEv
import Derived.Test.YtlfikdpcfoflfaaWMore
import Derived.Test.YtlfikdpcfoflfaaManLent01
import Derived.Test.YtlfikdpcfoflfaaManVarint
import Derived.Test.YtlfikdpcfoflfaaManText
import Derived.Test.YtlfikdpcfoflfaaPostReadText
import Derived.Test.YtlfikdpcfoflfaaGx4
import Derived.Test.YtlfikdpcfoflfaaGx6
import Derived.Test.YtlfikdpcfoflfaaGx8
import Derived.Test.YtlfikdpcfoflfaaGx7
import Derived.Test.YtlfikdpcfoflfaaGx2
namespace Go.Proofs.Ytlfikdpcfoflfaa.G
open Go.RowKit Go.Proofs.YtlfikdpcfoflfaaW.PrintWords Go.Proofs.YtlfikdpcfoflfaaW.PrintLast Go.Proofs.YtlfikdpcfoflfaaW.PrintMore
attribute [local go_sem] max2_int min2_int max_two min_two max_three min_three max_four min_four

/-! the walk of the law CodecReads, out of the contracts of what it calls -/
set_option maxHeartbeats 4000000 in
set_option maxRecDepth 100000 in
theorem CodecReads_calls (k : Nat) (A0 : Option Addr) (c0 : Nat) (l0 : List Int) (a1 : Int) (w : World) (hr0 : Kd.C (Kd.int .u8) w A0 l0.length l0) (hc0 : l0.length ≤ c0) (hl : l0.length ≤ 140737488355000)
    (v n e v4 n4 e4 v8 n8 e8 : Int) (s : ByteArray) (ns es : Int)
    (h1 : codec_Varint.f l0 a1 = some (v, n, e)) (h2 : moraineref01_Read.f k l0 a1 = some (v, n, e))
    (h3 : codec_Fixed32.f k l0 a1 = some (v4, n4, e4)) (h4 : moraineref01_ReadFixed.f k l0 a1 4 = some (v4, n4, e4)) (hw4 : IntKind.u64.wrap v4 = v4)
    (h5 : codec_Fixed64.f k l0 a1 = some (v8, n8, e8)) (h6 : moraineref01_ReadFixed.f k l0 a1 8 = some (v8, n8, e8))
    (h7 : codec_Text.f l0 a1 = some (s, ns, es)) (h8 : moraineref01_ReadText.f k l0 a1 = some (s, ns, es)) :
    Calls Try.prog 7 #[.slice A0 l0.length c0, .int .i64 a1] w fun e w' => e = .returned (.bool true) ∧ Below w.heap.size w w' := by
  have H1 := Aside0.mk h1
  have H2 := Aside0.mk h2
  have H3 := Aside0.mk h3
  have H4 := Aside0.mk h4
  have H5 := Aside0.mk h5
  have H6 := Aside0.mk h6
  have H7 := Aside0.mk h7
  have H8 := Aside0.mk h8
  have HL := Aside0.mk hl
  have HR := Aside0.mk hr0
  have HC := Aside0.mk hc0
  have HN := Aside0.mk (show morainelaw01_names.f = some true from rfl)
  clear h1 h2 h3 h4 h5 h6 h7 h8 hl hr0 hc0
  go_enter Try.func7, Try.ntmps7
  go_wp2_with (first
    | (go_at_call 14; (with_reducible refine (morainelaw01_lent.calls _ _ l0 _ HR.out HC.out HL.out).mono ?_); rintro e w1 ⟨Ai, ci, rfl, ho, hb⟩; have HB := Aside0.mk hb; have HT := Aside0.mk (Kd.R_reads' ho); have HI := Aside0.mk (C_prefix (ys := [90]) (by simpa using (Kd.R_reads' ho).2.2)); have HR1 := Aside0.mk (Kd.C_below HR.out hb); clear ho hb)
    | (go_at_call 26; (with_reducible refine (codec_Varint.calls _ _ l0 a1 v n e _ ?s1 ?s2 H1.out).mono ?_); (case s1 => repeat (first | exact HI.out | (with_reducible refine Kd.C_drewN ?_ _))); (case s2 => have := HT.out.2.1; omega); rintro e w' ⟨rfl, ⟨nd, rfl⟩⟩)
    | (go_at_call 27; (with_reducible refine (moraineref01_Read.calls k _ _ l0 a1 v n e _ ?s3 HC.out H2.out).mono ?_); (case s3 => repeat (first | exact HR1.out | (with_reducible refine Kd.C_drewN ?_ _))); rintro e w' ⟨rfl, ⟨nd, rfl⟩⟩)
    | (go_at_call 28; (with_reducible refine (codec_Fixed32.calls k _ _ l0 a1 v4 n4 e4 _ ?s4 ?s5 H3.out).mono ?_); (case s4 => repeat (first | exact HI.out | (with_reducible refine Kd.C_drewN ?_ _))); (case s5 => have := HT.out.2.1; omega); rintro e w' ⟨rfl, ⟨nd, rfl⟩⟩)
    | (go_at_call 30; (with_reducible refine (codec_Fixed64.calls k _ _ l0 a1 v8 n8 e8 _ ?s6 ?s7 H5.out).mono ?_); (case s6 => repeat (first | exact HI.out | (with_reducible refine Kd.C_drewN ?_ _))); (case s7 => have := HT.out.2.1; omega); rintro e w' ⟨rfl, ⟨nd, rfl⟩⟩)
    | (go_at_call 29; (with_reducible refine (moraineref01_ReadFixed.calls k _ _ l0 a1 4 v4 n4 e4 _ ?s8 HC.out H4.out).mono ?_); (case s8 => repeat (first | exact HR1.out | (with_reducible refine Kd.C_drewN ?_ _))); rintro e w' ⟨rfl, ⟨nd, rfl⟩⟩)
    | (go_at_call 29; (with_reducible refine (moraineref01_ReadFixed.calls k _ _ l0 a1 8 v8 n8 e8 _ ?s9 HC.out H6.out).mono ?_); (case s9 => repeat (first | exact HR1.out | (with_reducible refine Kd.C_drewN ?_ _))); rintro e w' ⟨rfl, ⟨nd, rfl⟩⟩)
    | (go_at_call 31; (with_reducible refine (codec_Text.calls _ _ l0 a1 s ns es _ ?t1 ?t2 H7.out).mono ?_); (case t1 => repeat (first | exact HI.out | (with_reducible refine Kd.C_drewN ?_ _))); (case t2 => have := HT.out.2.1; omega); rintro e w' ⟨rfl, ⟨nd, rfl⟩⟩)
    | (go_at_call 32; (with_reducible refine (moraineref01_ReadText.calls k _ _ l0 a1 s ns es _ ?t3 HC.out H8.out).mono ?_); (case t3 => repeat (first | exact HR1.out | (with_reducible refine Kd.C_drewN ?_ _))); rintro e w' ⟨rfl, ⟨nd, rfl⟩⟩)
    | (go_at_call 25; (with_reducible refine (morainelaw01_kept.calls _ _ l0 _ _ _ ?t4 HT.out.2.1 ?t5 HL.out).mono ?_); (case t4 => repeat (first | exact (by simpa using HT.out.2.2) | (with_reducible refine Kd.C_drewN ?_ _))); (case t5 => repeat (first | exact HR1.out | (with_reducible refine Kd.C_drewN ?_ _))); rintro e w' ⟨rfl, ⟨nd, rfl⟩⟩)
    | (go_at_call 15; (with_reducible refine (morainelaw01_names.calls true _ HN.out).mono ?_); rintro e w' ⟨rfl, ⟨nd, rfl⟩⟩))
  go_ret
  exact ⟨by simp, by repeat (first | exact HB.out | apply pw_below_drewN)⟩

end Go.Proofs.Ytlfikdpcfoflfaa.G
