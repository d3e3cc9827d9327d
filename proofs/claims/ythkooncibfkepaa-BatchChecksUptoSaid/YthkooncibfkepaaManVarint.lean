/- Contracts typed by hand: codec.Varint: a number is read at a place (function 83) -/
import Derived.Test.YthkooncibfkepaaProg
import Derived.Below
import Derived.Deep.Draws
import Derived.Deep.AppendLies
import Derived.Maps.AppendAt
import Derived.OwnWalk
import Derived.Laws.BytesArg
import Derived.Laws.MakeOwn
import Derived.Laws.OwnMore
import Derived.Deep.OwnRows
import Derived.Tactics
import Derived.Lib.ConvBytes
import Derived.Laws.Slices
import Derived.WalkKit
import Derived.KernelRfl
import Derived.RowKit3
import Derived.Deep.LoopGhost
import Derived.Deep.QuietTactic
import Derived.BigQuiet
import Derived.WideLaws
import Derived.Deep.DeepCutAuto
import Derived.Deep.CutBlock
import Derived.Deep.RegionHeld3
import Derived.Laws.Rows
import Derived.Lib.AppendStr
import Derived.ArgAppend
import Derived.Laws.IdiomCopy
import Derived.OrdersHeld
import Derived.Laws.BitsLemmas
import Derived.RowKit
import Derived.Test.YthkooncibfkepaaWWords
import Derived.Test.YthkooncibfkepaaWLast
import Derived.Test.YthkooncibfkepaaWTab
import Derived.Test.YthkooncibfkepaaWFour
import Derived.Test.YthkooncibfkepaaWQPut
import Derived.Test.YthkooncibfkepaaWApart
import Derived.Test.YthkooncibfkepaaWArr
import Derived.Test.YthkooncibfkepaaWZeros
import Derived.Test.YthkooncibfkepaaWFoot
import Derived.Test.YthkooncibfkepaaWKept
import Derived.Test.YthkooncibfkepaaWShare
import Derived.Test.YthkooncibfkepaaWN
import Derived.Test.YthkooncibfkepaaWFootNe
import Derived.Test.YthkooncibfkepaaWAt
import Derived.Test.YthkooncibfkepaaWEqStruct
import Derived.Test.YthkooncibfkepaaWRepsOne
import Derived.Test.YthkooncibfkepaaWInv
import Derived.Test.YthkooncibfkepaaWInvWords
import Derived.Test.YthkooncibfkepaaWGuard
import Derived.Test.YthkooncibfkepaaWNEv
import Derived.Test.YthkooncibfkepaaWMore
namespace Go.Proofs.Ythkooncibfkepaa.G
open Go.RowKit Go.Proofs.YthkooncibfkepaaW.PrintWords Go.Proofs.YthkooncibfkepaaW.PrintLast Go.Proofs.YthkooncibfkepaaW.PrintMore
attribute [local go_sem] max2_int min2_int max_two min_two max_three min_three max_four min_four
set_option linter.unusedVariables false
set_option linter.unusedSimpArgs false

/-! codec.Varint: a number is read at a place (function 83) -/
def codec_Varint.go (at_ : Int) : List Int → Nat → Int → Int × Int × Int
  | [], _, _ => (0, 0, 10)
  | c :: cs, i, v => if i = 9 ∧ 1 < c then (0, 0, 11) else if c = 0 ∧ 0 < i then (0, 0, 11) else if c < 128 then (Go.bits .or .u64 v (IntKind.u64.wrap (IntKind.u64.wrap c * 2 ^ (7 * i))), at_ + i + 1, 0)
    else codec_Varint.go at_ cs (i + 1) (Go.bits .or .u64 v (IntKind.u64.wrap (IntKind.u64.wrap (Go.bits .and .u8 c 127) * 2 ^ (7 * i))))
def codec_Varint.f (l0 : List Int) (a1 : Int) : Option (Int × Int × Int) := if a1 < 0 then some (0, 0, 2) else if a1 > (l0.length : Int) then some (0, 0, 2) else if (l0.length : Int) ≤ 281474976710656 then some (codec_Varint.go a1 (l0.drop a1.toNat) 0 0) else none
theorem codec_Varint.drop_rd (L : List Int) (j : Nat) (h : j < L.length) : L.drop j = rd L (j : Int) :: L.drop (j + 1) := by
  rw [List.drop_eq_getElem_cons h]
  congr 1
  simp [rd, List.getD_eq_getElem?_getD, List.getElem?_eq_getElem h]
theorem addr_add_zero (a : Addr) : a.add 0 = a := by simp [Addr.add]
set_option maxHeartbeats 2000000 in
theorem codec_Varint.calls (A0 : Option Addr) (c0 : Nat) (l0 : List Int) (a1 : Int) (r1 : Int) (r2 : Int) (r3 : Int) (w : World) (hr0 : Kd.C (Kd.int .u8) w A0 l0.length l0) (hc0 : l0.length ≤ c0) (h : codec_Varint.f l0 a1 = some (r1, r2, r3)) :
    Calls Try.prog 83 #[.slice A0 l0.length c0, .int .i64 a1] w fun e w' => e = .returned (.tuple #[.int .u64 r1, .int .i64 r2, .int .i64 r3]) ∧ Drawn0 w w' := by
  unfold codec_Varint.f at h
  by_cases h0 : a1 < 0
  · rw [if_pos h0] at h
    simp only [Option.some.injEq, Prod.mk.injEq] at h
    obtain ⟨rfl, rfl, rfl⟩ := h
    clear hr0 hc0
    go_enter Try.func83, Try.ntmps83
    go_wp2
    go_ret3
    exact ⟨rfl, Drawn0.refl _⟩
  · rw [if_neg h0] at h
    by_cases h1 : a1 > (l0.length : Int)
    · rw [if_pos h1] at h
      simp only [Option.some.injEq, Prod.mk.injEq] at h
      obtain ⟨rfl, rfl, rfl⟩ := h
      clear hr0 hc0
      go_enter Try.func83, Try.ntmps83
      go_wp2
      go_ret3
      exact ⟨rfl, Drawn0.refl _⟩
    · rw [if_neg h1] at h
      by_cases h2 : (l0.length : Int) ≤ 281474976710656
      · rw [if_pos h2] at h
        have hinfo : (Try.prog.info? 5).map (fun i => (i.zero, i.size, i.bytes)) = some (some (.int .u8 0), 1, 1) := by kernel_rfl
        obtain ⟨i08, hi08, _, hsz8, _⟩ := info_parts hinfo
        obtain ⟨A8, hcut8, hA8, hC8⟩ := print_drop_of (P := Try.prog) (Value.int .u8) 0 33 5 .i64 Try.underlying33 hi08 hsz8 A0 c0 l0 a1 (by omega) (by omega) hc0
        have HR := Aside0.mk (Kd.C_of_reads (h1 := fun _ => rfl) (hA8 _ (Kd.reads_of_C hr0)))
        clear hA8 hi08 hsz8 hr0 hinfo
        have HG := Aside0.mk (Option.some.inj h)
        have hn1 : (l0.drop a1.toNat).length = l0.length - a1.toNat := List.length_drop
        generalize hL : l0.drop a1.toNat = L at *
        have h3 : a1 + (L.length : Int) ≤ 281474976710656 := by omega
        have h4 : 0 ≤ a1 := by omega
        have h5 : a1 ≤ (l0.length : Int) := by omega
        clear hL h hc0 hC8 hn1 h2 h0 h1
        go_enter Try.func83, Try.ntmps83
        go_wp2
        go_loop [4, 21] (fun v4 v21 => ∃ (j : Nat) (v : Int), v4 = .int .u64 v ∧ v21 = .int .i64 (j : Int) ∧ j ≤ 9 ∧ j ≤ L.length ∧ Aside0 (codec_Varint.go a1 (L.drop j) j v = (r1, r2, r3))) (fun _ v21 => L.length - (intOf v21).toNat)
        case atStart => exact ⟨0, 0, rfl, rfl, by omega, by omega, HG⟩
        case round =>
          clear HG
          obtain ⟨j, v, rfl, rfl, hj9, hjn, HG⟩ := hrel
          by_cases hlt : j < L.length
          · obtain ⟨ad, e1, hx⟩ := Kd.at_int HR.out (j : Int) (by omega) (by omega)
            cases e1
            rw [Int.toNat_natCast] at hx
            have HD := codec_Varint.drop_rd L j hlt
            have H := HG.out
            rw [HD] at H
            clear HG HD HR
            have hlt' : decide ((j : Int) < (L.length : Int)) = true := decide_eq_true (by omega)
            generalize rd L (j : Int) = c at *
            simp only [codec_Varint.go] at H
            by_cases hz : j = 9
            · have b0 : ((j : Int) == 9) = true := beq_iff_eq.2 (by omega)
              have b4 : decide ((0 : Int) < (j : Int)) = true := decide_eq_true (by omega)
              have hj0 : 0 < j := by omega
              by_cases hc1 : 1 < c
              · rw [if_pos ⟨hz, hc1⟩] at H
                clear hz
                simp only [Prod.mk.injEq] at H
                obtain ⟨rfl, rfl, rfl⟩ := H
                have b1 : decide (1 < c) = true := decide_eq_true hc1
                go_wp2
                go_ret3
                exact ⟨rfl, Drawn0.refl _⟩
              · rw [if_neg (fun q => hc1 q.2)] at H
                clear hz
                have b1 : decide (1 < c) = false := decide_eq_false hc1
                by_cases hc0 : c = 0
                · subst hc0
                  rw [if_pos ⟨rfl, by omega⟩] at H
                  simp only [Prod.mk.injEq] at H
                  obtain ⟨rfl, rfl, rfl⟩ := H
                  go_wp2
                  go_ret3
                  exact ⟨rfl, Drawn0.refl _⟩
                · rw [if_neg (fun q => hc0 q.1), if_pos (show c < 128 by omega)] at H
                  have b2 : (c == 0) = false := beq_eq_false_iff_ne.2 hc0
                  have b3 : decide (c < 128) = true := decide_eq_true (by omega)
                  have HH := Aside0.mk H
                  clear H
                  go_wp2
                  go_ret3
                  have H := HH.out
                  simp only [Prod.mk.injEq] at H
                  obtain ⟨rfl, rfl, rfl⟩ := H
                  exact ⟨by simp, Drawn0.refl _⟩
            · rw [if_neg (fun q => hz q.1)] at H
              have b0 : ((j : Int) == 9) = false := beq_eq_false_iff_ne.2 (by omega)
              by_cases hj0 : j = 0
              · subst hj0
                have hx0 := hx
                simp only [addr_add_zero] at hx0
                rw [if_neg (fun q => by omega)] at H
                by_cases hc8 : c < 128
                · rw [if_pos hc8] at H
                  have b3 : decide (c < 128) = true := decide_eq_true hc8
                  have HH := Aside0.mk H
                  clear H
                  by_cases hc0 : c = 0
                  all_goals
                    first | (have b2 : (c == 0) = true := beq_iff_eq.2 hc0) | (have b2 : (c == 0) = false := beq_eq_false_iff_ne.2 hc0)
                    clear hc0
                    go_wp2
                    go_ret3
                    have H := HH.out
                    simp only [Prod.mk.injEq] at H
                    obtain ⟨rfl, rfl, rfl⟩ := H
                    exact ⟨by simp, Drawn0.refl _⟩
                · rw [if_neg hc8] at H
                  have b3 : decide (c < 128) = false := decide_eq_false hc8
                  have b2 : (c == 0) = false := beq_eq_false_iff_ne.2 (by omega)
                  have HH := Aside0.mk H
                  clear H
                  go_wp2
                  go_round
                  case rel => exact ⟨1, _, rfl, by go_num, by omega, by omega, by simpa using HH⟩
                  case measure => simp [intOf]; omega
              · have b4 : decide ((0 : Int) < (j : Int)) = true := decide_eq_true (by omega)
                by_cases hc0 : c = 0
                · subst hc0
                  rw [if_pos ⟨rfl, by omega⟩] at H
                  simp only [Prod.mk.injEq] at H
                  obtain ⟨rfl, rfl, rfl⟩ := H
                  go_wp2
                  go_ret3
                  exact ⟨rfl, Drawn0.refl _⟩
                · rw [if_neg (fun q => hc0 q.1)] at H
                  have b2 : (c == 0) = false := beq_eq_false_iff_ne.2 hc0
                  by_cases hc8 : c < 128
                  · rw [if_pos hc8] at H
                    have b3 : decide (c < 128) = true := decide_eq_true hc8
                    have HH := Aside0.mk H
                    clear H
                    go_wp2
                    go_ret3
                    have H := HH.out
                    simp only [Prod.mk.injEq] at H
                    obtain ⟨rfl, rfl, rfl⟩ := H
                    exact ⟨by simp, Drawn0.refl _⟩
                  · rw [if_neg hc8] at H
                    have b3 : decide (c < 128) = false := decide_eq_false hc8
                    have HH := Aside0.mk H
                    clear H
                    go_wp2
                    go_round
                    case rel => exact ⟨j + 1, _, rfl, by go_num, by omega, by omega, HH⟩
                    case measure => simp [intOf]; omega
          · have hjl : j = L.length := by omega
            subst hjl
            have H := HG.out
            rw [List.drop_length] at H
            simp only [codec_Varint.go, Prod.mk.injEq] at H
            obtain ⟨rfl, rfl, rfl⟩ := H
            clear HG
            go_wp2
            go_ret3
            exact ⟨rfl, Drawn0.refl _⟩
      · rw [if_neg h2] at h
        cases h

end Go.Proofs.Ythkooncibfkepaa.G
