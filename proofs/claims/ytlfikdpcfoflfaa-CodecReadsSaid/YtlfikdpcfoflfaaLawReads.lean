/- Contracts typed by hand: the plain law of CodecReads, and its walk for every input -/
import Derived.Test.YtlfikdpcfoflfaaProg
import Derived.Below
import Derived.Deep.Draws
import Derived.Deep.AppendLies
import Derived.Maps.AppendAt
import Derived.OwnWalk
import Derived.Laws.BytesArg
import Derived.Laws.MakeOwn
import Derived.Laws.OwnMore
import Derived.Deep.OwnRows
import Derived.Tactics
import Derived.Lib.ConvBytes
import Derived.Laws.Slices
import Derived.WalkKit
import Derived.KernelRfl
import Derived.RowKit3
import Derived.Deep.LoopGhost
import Derived.Deep.QuietTactic
import Derived.BigQuiet
import Derived.WideLaws
import Derived.Deep.DeepCutAuto
import Derived.Deep.CutBlock
import Derived.Deep.RegionHeld3
import Derived.Laws.Rows
import Derived.Lib.AppendStr
import Derived.ArgAppend
import Derived.Laws.IdiomCopy
import Derived.OrdersHeld
import Derived.Laws.BitsLemmas
import Derived.RowKit
import Derived.Test.YtlfikdpcfoflfaaWWords
import Derived.Test.YtlfikdpcfoflfaaWLast
import Derived.Test.YtlfikdpcfoflfaaWTab
import Derived.Test.YtlfikdpcfoflfaaWFour
import Derived.Test.YtlfikdpcfoflfaaWQPut
import Derived.Test.YtlfikdpcfoflfaaWApart
import Derived.Test.YtlfikdpcfoflfaaWArr
import Derived.Test.YtlfikdpcfoflfaaWZeros
import Derived.Test.YtlfikdpcfoflfaaWFoot
import Derived.Test.YtlfikdpcfoflfaaWKept
import Derived.Test.YtlfikdpcfoflfaaWShare
import Derived.Test.YtlfikdpcfoflfaaWN
import Derived.Test.YtlfikdpcfoflfaaWFootNe
import Derived.Test.YtlfikdpcfoflfaaWAt
import Derived.Test.YtlfikdpcfoflfaaWEqStruct
import Derived.Test.YtlfikdpcfoflfaaWRepsOne
import Derived.Test.YtlfikdpcfoflfaaWInv
import Derived.Test.YtlfikdpcfoflfaaWInvWords
import Derived.Test.YtlfikdpcfoflfaaWGuard
import Derived.Test.YtlfikdpcfoflfaaWNEv
import Derived.Test.YtlfikdpcfoflfaaWMore
import Derived.Test.YtlfikdpcfoflfaaPureFixed
import Derived.Test.YtlfikdpcfoflfaaPostReads
namespace Go.Proofs.Ytlfikdpcfoflfaa.G
open Go.RowKit Go.Proofs.YtlfikdpcfoflfaaW.PrintWords Go.Proofs.YtlfikdpcfoflfaaW.PrintLast Go.Proofs.YtlfikdpcfoflfaaW.PrintMore
attribute [local go_sem] max2_int min2_int max_two min_two max_three min_three max_four min_four

/-! the plain law of CodecReads, and its walk for every input -/
theorem text_some (l : List Int) (at_ : Int) (hb : Bytes l) (hl : l.length ≤ 140737488355328) : ∃ s n e, codec_Text.f l at_ = some (s, n, e) := by
  obtain ⟨v, n, e, h1, h2⟩ := varint_some l at_ hb hl
  unfold codec_Text.f
  rw [h1]
  simp only [Option.bind_some]
  rcases h2 with ⟨rfl, b, c, d, f, g⟩ | ⟨b, _⟩
  · rw [if_pos rfl, if_pos b, if_pos (by omega), if_pos g, if_pos (by omega)]
    split
    · exact ⟨_, _, _, rfl⟩
    · exact ⟨_, _, _, rfl⟩
  · rw [if_neg b]; exact ⟨_, _, _, rfl⟩
theorem text_same (l : List Int) (at_ : Int) (hb : Bytes l) (hl : l.length ≤ 140737488355328) (k : Nat) (hk : 24 ≤ k) : moraineref01_ReadText.f k l at_ = codec_Text.f l at_ := by
  unfold moraineref01_ReadText.f codec_Text.f
  rw [read_same l at_ hb hl k hk]
theorem CodecReads_walk (a0 : Option Addr) (len0 cap0 : Nat) (z0 : List Int) (a1 : Int) (w : World) (w0 : (a0 = none ∧ len0 = 0 ∧ cap0 = 0 ∧ z0 = []) ∨ ∃ x, a0 = some x ∧ len0 ≤ cap0 ∧ cap0 ≤ maxLen ∧ z0.length = cap0 ∧ (∀ i, i < z0.length → w.cell? (x.add i) = some (.int .u8 (z0.getD i 0))) ∧ ∀ n ∈ z0, (Lit.int .u8 n).wf = true) (y0 : len0 * 1 ≤ 140737488351232) (_w1 : (Lit.int .i64 a1).wf = true) :
    Calls Try.prog 7 #[.slice a0 len0 cap0, .int .i64 a1] w fun e w' => e = .returned (.bool true) ∧ Below w.heap.size w w' := by
  obtain ⟨l0, rfl, hr0, hm0, hw0, hc0⟩ := ReadsInt.ofRowC w0
  have hb := bytes_of_wf hw0
  have hl : l0.length ≤ 140737488355328 := by omega
  obtain ⟨v, n, e, h1, _⟩ := varint_some l0 a1 hb hl
  obtain ⟨s, ns, es, h7⟩ := text_some l0 a1 hb hl
  have h2 : moraineref01_Read.f 24 l0 a1 = some (v, n, e) := by rw [read_same l0 a1 hb hl 24 (by omega), h1]
  have h8 : moraineref01_ReadText.f 24 l0 a1 = some (s, ns, es) := by rw [text_same l0 a1 hb hl 24 (by omega), h7]
  have g4 := fixed_eq l0 a1 4 24 hb hl (by omega) (by omega)
  have g8 := fixed_eq l0 a1 8 24 hb hl (by omega) (by omega)
  have r4 := reffixed_eq l0 a1 4 24 hb hl (by omega) (by omega)
  have r8 := reffixed_eq l0 a1 8 24 hb hl (by omega) (by omega)
  have s4 := fixv_small4 l0 a1 hb
  have s8 := fixv_small l0 a1 8 hb (by omega)
  generalize fixv l0 a1 4 = q4 at *
  generalize fixv l0 a1 8 = q8 at *
  obtain ⟨v4, n4, e4⟩ := q4
  obtain ⟨v8, n8, e8⟩ := q8
  simp only [] at s4 s8
  have h3 : codec_Fixed32.f 24 l0 a1 = some (v4, n4, e4) := by
    unfold codec_Fixed32.f
    rw [show (4 : Int) = ((4 : Nat) : Int) by omega, g4]
    simp only [Option.bind_some]
    rw [show v4 % 4294967296 = v4 by omega]
  have h5 : codec_Fixed64.f 24 l0 a1 = some (v8, n8, e8) := by
    unfold codec_Fixed64.f
    rw [show (8 : Int) = ((8 : Nat) : Int) by omega, g8]
    rfl
  exact CodecReads_calls 24 a0 cap0 l0 a1 w (Kd.C_of_reads (d := (0 : Int)) (h1 := fun _ => rfl) hr0) hc0 (by omega) v n e v4 n4 e4 v8 n8 e8 s ns es h1 h2 h3 r4 (by rw [Go.IntKind.wrap_u64]; omega) h5 r8 h7 h8

end Go.Proofs.Ytlfikdpcfoflfaa.G
