/- Contracts typed by hand: codec.Text, moraineref01.ReadText: a text is read at a place -/
import Derived.Test.YtlfikdpcfoflfaaProg
import Derived.Below
import Derived.Deep.Draws
import Derived.Deep.AppendLies
import Derived.Maps.AppendAt
import Derived.OwnWalk
import Derived.Laws.BytesArg
import Derived.Laws.MakeOwn
import Derived.Laws.OwnMore
import Derived.Deep.OwnRows
import Derived.Tactics
import Derived.Lib.ConvBytes
import Derived.Laws.Slices
import Derived.WalkKit
import Derived.KernelRfl
import Derived.RowKit3
import Derived.Deep.LoopGhost
import Derived.Deep.QuietTactic
import Derived.BigQuiet
import Derived.WideLaws
import Derived.Deep.DeepCutAuto
import Derived.Deep.CutBlock
import Derived.Deep.RegionHeld3
import Derived.Laws.Rows
import Derived.Lib.AppendStr
import Derived.ArgAppend
import Derived.Laws.IdiomCopy
import Derived.OrdersHeld
import Derived.Laws.BitsLemmas
import Derived.RowKit
import Derived.Test.YtlfikdpcfoflfaaWWords
import Derived.Test.YtlfikdpcfoflfaaWLast
import Derived.Test.YtlfikdpcfoflfaaWTab
import Derived.Test.YtlfikdpcfoflfaaWFour
import Derived.Test.YtlfikdpcfoflfaaWQPut
import Derived.Test.YtlfikdpcfoflfaaWApart
import Derived.Test.YtlfikdpcfoflfaaWArr
import Derived.Test.YtlfikdpcfoflfaaWZeros
import Derived.Test.YtlfikdpcfoflfaaWFoot
import Derived.Test.YtlfikdpcfoflfaaWKept
import Derived.Test.YtlfikdpcfoflfaaWShare
import Derived.Test.YtlfikdpcfoflfaaWN
import Derived.Test.YtlfikdpcfoflfaaWFootNe
import Derived.Test.YtlfikdpcfoflfaaWAt
import Derived.Test.YtlfikdpcfoflfaaWEqStruct
import Derived.Test.YtlfikdpcfoflfaaWRepsOne
import Derived.Test.YtlfikdpcfoflfaaWInv
import Derived.Test.YtlfikdpcfoflfaaWInvWords
import Derived.Test.YtlfikdpcfoflfaaWGuard
import Derived.Test.YtlfikdpcfoflfaaWNEv
import Derived.Test.YtlfikdpcfoflfaaWMore
import Derived.Test.YtlfikdpcfoflfaaManVarint
namespace Go.Proofs.Ytlfikdpcfoflfaa.G
open Go.RowKit Go.Proofs.YtlfikdpcfoflfaaW.PrintWords Go.Proofs.YtlfikdpcfoflfaaW.PrintLast Go.Proofs.YtlfikdpcfoflfaaW.PrintMore
attribute [local go_sem] max2_int min2_int max_two min_two max_three min_three max_four min_four
set_option linter.unusedVariables false
set_option linter.unusedSimpArgs false

/-! codec.Text, moraineref01.ReadText: a text is read at a place -/

def codec_Text.f (l0 : List Int) (a1 : Int) : Option (ByteArray × Int × Int) := (codec_Varint.f l0 a1).bind fun t => if t.2.2 = 0 then (if 0 ≤ t.1 then (if 0 ≤ t.2.1 then (if t.2.1 ≤ (l0.length : Int) then (if (l0.length : Int) ≤ 281474976710656 then
  (if t.1 > (l0.length : Int) - t.2.1 then some (ByteArray.empty, 0, 10) else some (strOfNums ((l0.take (t.2.1 + t.1).toNat).drop t.2.1.toNat), t.2.1 + t.1, 0)) else none) else none) else none) else none) else some (ByteArray.empty, 0, t.2.2)

set_option maxHeartbeats 2000000 in
theorem codec_Text.calls (A0 : Option Addr) (c0 : Nat) (l0 : List Int) (a1 : Int) (r1 : ByteArray) (r2 : Int) (r3 : Int) (w : World) (hr0 : Kd.C (Kd.int .u8) w A0 l0.length l0) (hc0 : l0.length ≤ c0) (h : codec_Text.f l0 a1 = some (r1, r2, r3)) :
    Calls Try.prog 31 #[.slice A0 l0.length c0, .int .i64 a1] w fun e w' => e = .returned (.tuple #[.string r1, .int .i64 r2, .int .i64 r3]) ∧ Drawn0 w w' := by
  unfold codec_Text.f at h
  obtain ⟨⟨n, nx, er⟩, hv, H⟩ := Option.bind_eq_some_iff.1 h
  clear h
  simp only [] at H
  have HV := Aside0.mk hv
  clear hv
  have HR := Aside0.mk hr0
  have HC := Aside0.mk hc0
  clear hr0 hc0
  by_cases he : er = 0
  · subst he
    rw [if_pos rfl] at H
    by_cases h0 : 0 ≤ n
    · rw [if_pos h0] at H
      by_cases h1 : 0 ≤ nx
      · rw [if_pos h1] at H
        by_cases h2 : nx ≤ (l0.length : Int)
        · rw [if_pos h2] at H
          by_cases h3 : (l0.length : Int) ≤ 281474976710656
          · rw [if_pos h3] at H
            have u1 : wrap64 ((l0.length : Int) - nx) = (l0.length : Int) - nx := by unfold wrap64; omega
            have u2 : IntKind.u64.wrap ((l0.length : Int) - nx) = (l0.length : Int) - nx := by rw [Go.IntKind.wrap_u64]; omega
            have U1 := Aside0.mk u1
            have U2 := Aside0.mk u2
            clear u1 u2
            by_cases h4 : n > (l0.length : Int) - nx
            · rw [if_pos h4] at H
              simp only [Option.some.injEq, Prod.mk.injEq] at H
              obtain ⟨rfl, rfl, rfl⟩ := H
              have b4 : decide ((l0.length : Int) - nx < n) = true := decide_eq_true (by omega)
              go_enter Try.func31, Try.ntmps31
              go_wp2_with (first | (go_at_call 26; refine (codec_Varint.calls _ _ l0 a1 n nx 0 _ HR.out HC.out HV.out).mono ?_; rintro e w' ⟨rfl, ⟨nd, rfl⟩⟩))
              go_ret3
              exact ⟨rfl, Drawn0.step (Drawn0.refl _) _⟩
            · rw [if_neg h4] at H
              simp only [Option.some.injEq, Prod.mk.injEq] at H
              obtain ⟨rfl, rfl, rfl⟩ := H
              have h5 : n ≤ (l0.length : Int) - nx := by omega
              clear h4
              have b4 : decide ((l0.length : Int) - nx < n) = false := decide_eq_false (by omega)
              have b5 : decide (0 ≤ nx) = true := decide_eq_true h1
              have b6 : decide (nx ≤ nx + n) = true := decide_eq_true (by omega)
              have b7 : decide (nx + n ≤ (l0.length : Int)) = true := decide_eq_true (by omega)
              have hinfo : (Try.prog.info? 5).map (fun i => (i.zero, i.size, i.bytes)) = some (some (.int .u8 0), 1, 1) := by kernel_rfl
              obtain ⟨i09, hi09, _, hsz9, _⟩ := info_parts hinfo
              obtain ⟨A9, hcut9, hA9, hC9⟩ := print_mid_of (P := Try.prog) (Value.int .u8) 0 26 5 .i64 .i64 Try.underlying26 hi09 hsz9 A0 c0 l0 nx (nx + n) h1 (by omega) (by omega) HC.out
              have hcv := fun W (q : Kd.C (Kd.int .u8) W A0 l0.length l0) => Kd.C_string (P := Try.prog) (w := W) (A := A9) (c := (c0 - nx.toNat)) Try.underlying26 Try.underlying5 Try.underlying9 (Kd.C_of_reads (h1 := fun _ => rfl) (hA9 W (Kd.reads_of_C q)))
              clear hA9 hC9 hi09 hsz9 hinfo
              have hcw := fun nd => hcv (w.drewN nd) (Kd.C_drewN HR.out nd)
              generalize ((l0.take (nx + n).toNat).drop nx.toNat).length = m at hcut9 hcw
              have HCW := Aside0.mk hcw
              clear hcv hcw
              go_enter Try.func31, Try.ntmps31
              go_wp2_with (first | (go_at_call 26; refine (codec_Varint.calls _ _ l0 a1 n nx 0 _ HR.out HC.out HV.out).mono ?_; rintro e w' ⟨rfl, ⟨nd, rfl⟩⟩; have hcw1 := HCW.out nd))
              go_ret3
              exact ⟨rfl, Drawn0.step (Drawn0.refl _) _⟩
          · rw [if_neg h3] at H
            cases H
        · rw [if_neg h2] at H
          cases H
      · rw [if_neg h1] at H
        cases H
    · rw [if_neg h0] at H
      cases H
  · rw [if_neg he] at H
    simp only [Option.some.injEq, Prod.mk.injEq] at H
    obtain ⟨rfl, rfl, rfl⟩ := H
    have b0 : (er == 0) = false := beq_eq_false_iff_ne.2 he
    have b1 : (er != 0) = true := bne_iff_ne.2 he
    clear he
    go_enter Try.func31, Try.ntmps31
    go_wp2_with (first | (go_at_call 26; refine (codec_Varint.calls _ _ l0 a1 n nx er _ HR.out HC.out HV.out).mono ?_; rintro e w' ⟨rfl, ⟨nd, rfl⟩⟩))
    go_ret3
    exact ⟨rfl, Drawn0.step (Drawn0.refl _) _⟩


end Go.Proofs.Ytlfikdpcfoflfaa.G
