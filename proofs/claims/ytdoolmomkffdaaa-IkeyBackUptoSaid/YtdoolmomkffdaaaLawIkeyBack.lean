/- Contracts typed by hand: the law IkeyBack: its walk and its plain part -/
import Derived.Test.YtdoolmomkffdaaaProg
import Derived.Below
import Derived.Deep.Draws
import Derived.Deep.AppendLies
import Derived.Maps.AppendAt
import Derived.OwnWalk
import Derived.Laws.BytesArg
import Derived.Laws.MakeOwn
import Derived.Laws.OwnMore
import Derived.Deep.OwnRows
import Derived.Tactics
import Derived.Lib.ConvBytes
import Derived.Laws.Slices
import Derived.WalkKit
import Derived.KernelRfl
import Derived.RowKit3
import Derived.Deep.LoopGhost
import Derived.Deep.QuietTactic
import Derived.BigQuiet
import Derived.WideLaws
import Derived.Deep.DeepCutAuto
import Derived.Deep.CutBlock
import Derived.Deep.RegionHeld3
import Derived.Laws.Rows
import Derived.Lib.AppendStr
import Derived.ArgAppend
import Derived.Laws.IdiomCopy
import Derived.OrdersHeld
import Derived.Laws.BitsLemmas
import Derived.RowKit
import Derived.Test.YtdoolmomkffdaaaWWords
import Derived.Test.YtdoolmomkffdaaaWLast
import Derived.Test.YtdoolmomkffdaaaWTab
import Derived.Test.YtdoolmomkffdaaaWFour
import Derived.Test.YtdoolmomkffdaaaWQPut
import Derived.Test.YtdoolmomkffdaaaWApart
import Derived.Test.YtdoolmomkffdaaaWArr
import Derived.Test.YtdoolmomkffdaaaWZeros
import Derived.Test.YtdoolmomkffdaaaWFoot
import Derived.Test.YtdoolmomkffdaaaWKept
import Derived.Test.YtdoolmomkffdaaaWShare
import Derived.Test.YtdoolmomkffdaaaWN
import Derived.Test.YtdoolmomkffdaaaWFootNe
import Derived.Test.YtdoolmomkffdaaaWAt
import Derived.Test.YtdoolmomkffdaaaWEqStruct
import Derived.Test.YtdoolmomkffdaaaWRepsOne
import Derived.Test.YtdoolmomkffdaaaWInv
import Derived.Test.YtdoolmomkffdaaaWInvWords
import Derived.Test.YtdoolmomkffdaaaWGuard
import Derived.Test.YtdoolmomkffdaaaWNEv
import Derived.Test.YtdoolmomkffdaaaWMore
import Derived.Test.YtdoolmomkffdaaaLawIkeyCode
import Derived.Test.YtdoolmomkffdaaaOpens
import Derived.Test.YtdoolmomkffdaaaGx14
namespace Go.Proofs.Ytdoolmomkffdaaa.G
open Go.RowKit Go.Proofs.YtdoolmomkffdaaaW.PrintWords Go.Proofs.YtdoolmomkffdaaaW.PrintLast Go.Proofs.YtdoolmomkffdaaaW.PrintMore
attribute [local go_sem] max2_int min2_int max_two min_two max_three min_three max_four min_four
set_option linter.unusedVariables false
set_option linter.unusedSimpArgs false

/-! the law IkeyBack: its walk and its plain part -/
theorem decR_seq (l : List Int) (hb : Bytes l) : 0 ≤ (decR l).2.1 := by
  unfold decR
  split
  · exact Int.le_refl _
  · split
    · exact Int.le_refl _
    · split
      · have := (le_small (seg l (l.length - 8) 8) (seg_bytes hb _ _) 8 (by unfold seg; rw [List.length_take]; omega) (by omega)).1
        simp only []
        omega
      · exact Int.le_refl _
set_option maxHeartbeats 4000000 in
set_option maxRecDepth 100000 in
theorem IkeyBack_calls_00 (a : ByteArray) (s t : Int) (A1 : Option Addr) (c1 : Nat) (l1 : List Int) (w : World) (hr1 : Kd.C (Kd.int .u8) w A1 l1.length l1) (hc1 : l1.length ≤ c1) (s0 : 0 ≤ s) (hb1 : Bytes l1) (hl1 : l1.length ≤ 1099511627776)
    (hv : validOf a s t = false) (hq : (decR l1).2.2.2 ≠ 0) :
    Calls Try.prog 8 #[.agg #[.string a, .int .u64 s, .int .i64 t], .slice A1 l1.length c1] w fun e w' => e = .returned (.bool true) ∧ Below w.heap.size w w' := by
  have hu := Try.underlying35
  have HR := Aside0.mk hr1
  have HC := Aside0.mk hc1
  have HBY := Aside0.mk hb1
  have HL := Aside0.mk hl1
  have HVAL := Aside0.mk (show ikey_Valid.f a s t = some false by rw [valid_some, hv])
  have HDEC := Aside0.mk (decode_eq 12 l1 hb1 hl1 (by omega))
  have HENC := Aside0.mk (show ikey_Encode.f 12 a s t = some ([], 2) by rw [encode_eq 12 a s t s0 (by omega)]; unfold encK; rw [hv]; rfl)
  have HDQ := Aside0.mk (show ikey_Decode.f 12 l1 = some ((⟨#[]⟩ : ByteArray), 0, 0, 30) by rw [HDEC.out, dec_bad l1 hq])
  clear hr1 hc1 s0 hb1 hl1 hv hq HDEC
  go_enter Try.func8, Try.ntmps8
  go_wp2_with fail
  (with_reducible refine (ikey_Encode.calls 12 a s t _ _ _ HENC.out).mono ?_)
  rintro e w1 ⟨v1, rfl, ho, hb⟩
  have HO1 := Aside0.mk ho
  have HB1 := Aside0.mk (below_step (below_alloc (Below.refl w.heap.size w) _) hb)
  have hcc := (bcell hb).1
  have hz1 : w.heap.size + 1 ≤ w1.heap.size := by have := hb.size; simp at this; omega
  have k0 : w1.cell? ⟨w.heap.size, 0, none⟩ = some (.string a) := by rw [hcc _ _ (by simp)]; go_simp
  have k1 : w1.cell? ⟨w.heap.size, 1, none⟩ = some (.int .u64 s) := by rw [hcc _ _ (by simp)]; go_simp
  have k2 : w1.cell? ⟨w.heap.size, 2, none⟩ = some (.int .i64 t) := by rw [hcc _ _ (by simp)]; go_simp
  clear ho hb hcc
  go_wp2_with fail
  (with_reducible refine (ikey_Valid.calls a s t _ _ HVAL.out).mono ?_)
  rintro e w2 ⟨rfl, hb⟩
  have HO2 := Aside0.mk (Kd.R_below HO1.out hb)
  have HB2 := Aside0.mk (below_step HB1.out hb)
  have k0 := pw_cell_below hb k0
  have k1 := pw_cell_below hb k1
  have k2 := pw_cell_below hb k2
  clear hb
  go_wp2_with fail
  (with_reducible refine (ikey_Decode.calls 12 A1 c1 l1 _ _ _ _ _ (Kd.C_below HR.out HB2.out) HC.out HDQ.out).mono ?_)
  rintro e w4 ⟨rfl, hb⟩
  have HB4 := Aside0.mk (below_step HB2.out hb)
  clear hb
  go_wp2
  go_ret
  exact ⟨by simp, below_alloc HB4.out _⟩

set_option maxHeartbeats 4000000 in
set_option maxRecDepth 100000 in
theorem IkeyBack_calls_01 (a : ByteArray) (s t : Int) (A1 : Option Addr) (c1 : Nat) (l1 : List Int) (w : World) (hr1 : Kd.C (Kd.int .u8) w A1 l1.length l1) (hc1 : l1.length ≤ c1) (s0 : 0 ≤ s) (hb1 : Bytes l1) (hl1 : l1.length ≤ 1099511627776)
    (hv : validOf a s t = false) (hq : (decR l1).2.2.2 = 0) :
    Calls Try.prog 8 #[.agg #[.string a, .int .u64 s, .int .i64 t], .slice A1 l1.length c1] w fun e w' => e = .returned (.bool true) ∧ Below w.heap.size w w' := by
  have hu := Try.underlying35
  have HR := Aside0.mk hr1
  have HC := Aside0.mk hc1
  have HBY := Aside0.mk hb1
  have HL := Aside0.mk hl1
  have HVAL := Aside0.mk (show ikey_Valid.f a s t = some false by rw [valid_some, hv])
  have HDEC := Aside0.mk (decode_eq 12 l1 hb1 hl1 (by omega))
  have HENC := Aside0.mk (show ikey_Encode.f 12 a s t = some ([], 2) by rw [encode_eq 12 a s t s0 (by omega)]; unfold encK; rw [hv]; rfl)
  have HED := Aside0.mk (show ikey_Encode.f 12 (decR l1).1 (decR l1).2.1 (decR l1).2.2.1 = some (l1, 0) by rw [encode_eq 12 _ _ _ (decR_seq l1 hb1) (by omega), enc_dec l1 hb1 hq])
  have HDQ := Aside0.mk (show ikey_Decode.f 12 l1 = some ((decR l1).1, (decR l1).2.1, (decR l1).2.2.1, 0) by rw [HDEC.out, ← hq])
  generalize (decR l1).1 = d0 at *
  generalize (decR l1).2.1 = d1 at *
  generalize (decR l1).2.2.1 = d2 at *
  clear hr1 hc1 s0 hb1 hl1 hv hq HDEC
  go_enter Try.func8, Try.ntmps8
  go_wp2_with fail
  (with_reducible refine (ikey_Encode.calls 12 a s t _ _ _ HENC.out).mono ?_)
  rintro e w1 ⟨v1, rfl, ho, hb⟩
  have HO1 := Aside0.mk ho
  have HB1 := Aside0.mk (below_step (below_alloc (Below.refl w.heap.size w) _) hb)
  have hcc := (bcell hb).1
  have hz1 : w.heap.size + 1 ≤ w1.heap.size := by have := hb.size; simp at this; omega
  have k0 : w1.cell? ⟨w.heap.size, 0, none⟩ = some (.string a) := by rw [hcc _ _ (by simp)]; go_simp
  have k1 : w1.cell? ⟨w.heap.size, 1, none⟩ = some (.int .u64 s) := by rw [hcc _ _ (by simp)]; go_simp
  have k2 : w1.cell? ⟨w.heap.size, 2, none⟩ = some (.int .i64 t) := by rw [hcc _ _ (by simp)]; go_simp
  clear ho hb hcc
  go_wp2_with fail
  (with_reducible refine (ikey_Valid.calls a s t _ _ HVAL.out).mono ?_)
  rintro e w2 ⟨rfl, hb⟩
  have HO2 := Aside0.mk (Kd.R_below HO1.out hb)
  have HB2 := Aside0.mk (below_step HB1.out hb)
  have k0 := pw_cell_below hb k0
  have k1 := pw_cell_below hb k1
  have k2 := pw_cell_below hb k2
  clear hb
  go_wp2_with fail
  (with_reducible refine (ikey_Decode.calls 12 A1 c1 l1 _ _ _ _ _ (Kd.C_below HR.out HB2.out) HC.out HDQ.out).mono ?_)
  rintro e w4 ⟨rfl, hb⟩
  have HB4 := Aside0.mk (below_step HB2.out hb)
  clear hb
  have hcv1 := Kd.C_string (P := Try.prog) (w := w4) (A := A1) (c := c1) Try.underlying47 Try.underlying5 Try.underlying9 (Kd.C_below HR.out HB4.out)
  clear hcv1
  go_wp2_with fail
  (with_reducible refine (ikey_Encode.calls 12 d0 d1 d2 _ _ _ HED.out).mono ?_)
  rintro e w5 ⟨v5, rfl, ho, hb⟩
  have HB5 := Aside0.mk (below_step (below_alloc HB4.out _) hb)
  have hcv5 := own_string (P := Try.prog) Try.underlying47 Try.underlying5 Try.underlying9 (Kd.own_of_R ho)
  have hcv1 := Kd.C_string (P := Try.prog) (w := w5) (A := A1) (c := c1) Try.underlying47 Try.underlying5 Try.underlying9 (Kd.C_below HR.out HB5.out)
  clear ho hb
  go_wp2
  go_ret
  exact ⟨by simp, HB5.out⟩

set_option maxHeartbeats 4000000 in
set_option maxRecDepth 100000 in
theorem IkeyBack_calls_10 (a : ByteArray) (s t : Int) (A1 : Option Addr) (c1 : Nat) (l1 : List Int) (w : World) (hr1 : Kd.C (Kd.int .u8) w A1 l1.length l1) (hc1 : l1.length ≤ c1) (s0 : 0 ≤ s) (hb1 : Bytes l1) (hl1 : l1.length ≤ 1099511627776)
    (hv : validOf a s t = true) (hq : (decR l1).2.2.2 ≠ 0) :
    Calls Try.prog 8 #[.agg #[.string a, .int .u64 s, .int .i64 t], .slice A1 l1.length c1] w fun e w' => e = .returned (.bool true) ∧ Below w.heap.size w w' := by
  have hu := Try.underlying35
  have HR := Aside0.mk hr1
  have HC := Aside0.mk hc1
  have HBY := Aside0.mk hb1
  have HL := Aside0.mk hl1
  have HVAL := Aside0.mk (show ikey_Valid.f a s t = some true by rw [valid_some, hv])
  have HDEC := Aside0.mk (decode_eq 12 l1 hb1 hl1 (by omega))
  have hp := validOf_parts hv
  have HENC := Aside0.mk (show ikey_Encode.f 12 a s t = some (bytesOf a ++ fixF 8 (s * 256 + t), 0) by rw [encode_eq 12 a s t s0 (by omega)]; unfold encK; rw [if_pos hv])
  have hbb : Bytes (bytesOf a ++ fixF 8 (s * 256 + t)) := (bytesOf_bytes a).append (fixF_bytes 8 _)
  have hln : (bytesOf a ++ fixF 8 (s * 256 + t)).length = a.size + 8 := by rw [List.length_append, bytesOf_length, fixF_len]
  have HD1 := Aside0.mk (show ikey_Decode.f 12 (bytesOf a ++ fixF 8 (s * 256 + t)) = some (a, s, t, 0) by rw [decode_eq 12 _ hbb (by omega) (by omega), dec_enc a s t s0 hv])
  have hsz : a.size ≤ 1024 := hp.2.1
  generalize bytesOf a ++ fixF 8 (s * 256 + t) = x at *
  have HLN := Aside0.mk hln
  clear hp hbb hln
  have HDQ := Aside0.mk (show ikey_Decode.f 12 l1 = some ((⟨#[]⟩ : ByteArray), 0, 0, 30) by rw [HDEC.out, dec_bad l1 hq])
  clear hr1 hc1 s0 hb1 hl1 hv hq HDEC
  go_enter Try.func8, Try.ntmps8
  go_wp2_with fail
  (with_reducible refine (ikey_Encode.calls 12 a s t _ _ _ HENC.out).mono ?_)
  rintro e w1 ⟨v1, rfl, ho, hb⟩
  have HO1 := Aside0.mk ho
  have HB1 := Aside0.mk (below_step (below_alloc (Below.refl w.heap.size w) _) hb)
  have hcc := (bcell hb).1
  have hz1 : w.heap.size + 1 ≤ w1.heap.size := by have := hb.size; simp at this; omega
  have k0 : w1.cell? ⟨w.heap.size, 0, none⟩ = some (.string a) := by rw [hcc _ _ (by simp)]; go_simp
  have k1 : w1.cell? ⟨w.heap.size, 1, none⟩ = some (.int .u64 s) := by rw [hcc _ _ (by simp)]; go_simp
  have k2 : w1.cell? ⟨w.heap.size, 2, none⟩ = some (.int .i64 t) := by rw [hcc _ _ (by simp)]; go_simp
  clear ho hb hcc
  go_wp2_with fail
  (with_reducible refine (ikey_Valid.calls a s t _ _ HVAL.out).mono ?_)
  rintro e w2 ⟨rfl, hb⟩
  have HO2 := Aside0.mk (Kd.R_below HO1.out hb)
  have HB2 := Aside0.mk (below_step HB1.out hb)
  have k0 := pw_cell_below hb k0
  have k1 := pw_cell_below hb k1
  have k2 := pw_cell_below hb k2
  clear hb
  obtain ⟨A2, c2, rfl, hc2, hC2⟩ := Kd.R_reads HO2.out
  have HC2 := Aside0.mk hc2
  have HX2 := Aside0.mk hC2
  have ew : ((x.length : Int) != (a.size : Int) + 8) = false := by have := HLN.out; simp; omega
  clear hc2 hC2
  go_wp2_with fail
  (with_reducible refine (ikey_Decode.calls 12 A2 c2 x _ _ _ _ _ HX2.out HC2.out HD1.out).mono ?_)
  rintro e w3 ⟨rfl, hb⟩
  have HB3 := Aside0.mk (below_step HB2.out hb)
  have k0 := pw_cell_below hb k0
  have k1 := pw_cell_below hb k1
  have k2 := pw_cell_below hb k2
  have hz3 : w.heap.size < w3.heap.size := Nat.lt_of_lt_of_le (World.block_lt_of_cell? _ _ k0) (Nat.le_refl _)
  clear hb
  go_wp2_with fail
  (with_reducible refine (ikey_Decode.calls 12 A1 c1 l1 _ _ _ _ _ (Kd.C_below HR.out (below_alloc HB3.out _)) HC.out HDQ.out).mono ?_)
  rintro e w4 ⟨rfl, hb⟩
  have HB4 := Aside0.mk (below_step (below_alloc HB3.out _) hb)
  clear hb
  go_wp2
  go_ret
  exact ⟨by simp, below_alloc HB4.out _⟩

set_option maxHeartbeats 4000000 in
set_option maxRecDepth 100000 in
theorem IkeyBack_calls_11 (a : ByteArray) (s t : Int) (A1 : Option Addr) (c1 : Nat) (l1 : List Int) (w : World) (hr1 : Kd.C (Kd.int .u8) w A1 l1.length l1) (hc1 : l1.length ≤ c1) (s0 : 0 ≤ s) (hb1 : Bytes l1) (hl1 : l1.length ≤ 1099511627776)
    (hv : validOf a s t = true) (hq : (decR l1).2.2.2 = 0) :
    Calls Try.prog 8 #[.agg #[.string a, .int .u64 s, .int .i64 t], .slice A1 l1.length c1] w fun e w' => e = .returned (.bool true) ∧ Below w.heap.size w w' := by
  have hu := Try.underlying35
  have HR := Aside0.mk hr1
  have HC := Aside0.mk hc1
  have HBY := Aside0.mk hb1
  have HL := Aside0.mk hl1
  have HVAL := Aside0.mk (show ikey_Valid.f a s t = some true by rw [valid_some, hv])
  have HDEC := Aside0.mk (decode_eq 12 l1 hb1 hl1 (by omega))
  have hp := validOf_parts hv
  have HENC := Aside0.mk (show ikey_Encode.f 12 a s t = some (bytesOf a ++ fixF 8 (s * 256 + t), 0) by rw [encode_eq 12 a s t s0 (by omega)]; unfold encK; rw [if_pos hv])
  have hbb : Bytes (bytesOf a ++ fixF 8 (s * 256 + t)) := (bytesOf_bytes a).append (fixF_bytes 8 _)
  have hln : (bytesOf a ++ fixF 8 (s * 256 + t)).length = a.size + 8 := by rw [List.length_append, bytesOf_length, fixF_len]
  have HD1 := Aside0.mk (show ikey_Decode.f 12 (bytesOf a ++ fixF 8 (s * 256 + t)) = some (a, s, t, 0) by rw [decode_eq 12 _ hbb (by omega) (by omega), dec_enc a s t s0 hv])
  have hsz : a.size ≤ 1024 := hp.2.1
  generalize bytesOf a ++ fixF 8 (s * 256 + t) = x at *
  have HLN := Aside0.mk hln
  clear hp hbb hln
  have HED := Aside0.mk (show ikey_Encode.f 12 (decR l1).1 (decR l1).2.1 (decR l1).2.2.1 = some (l1, 0) by rw [encode_eq 12 _ _ _ (decR_seq l1 hb1) (by omega), enc_dec l1 hb1 hq])
  have HDQ := Aside0.mk (show ikey_Decode.f 12 l1 = some ((decR l1).1, (decR l1).2.1, (decR l1).2.2.1, 0) by rw [HDEC.out, ← hq])
  generalize (decR l1).1 = d0 at *
  generalize (decR l1).2.1 = d1 at *
  generalize (decR l1).2.2.1 = d2 at *
  clear hr1 hc1 s0 hb1 hl1 hv hq HDEC
  go_enter Try.func8, Try.ntmps8
  go_wp2_with fail
  (with_reducible refine (ikey_Encode.calls 12 a s t _ _ _ HENC.out).mono ?_)
  rintro e w1 ⟨v1, rfl, ho, hb⟩
  have HO1 := Aside0.mk ho
  have HB1 := Aside0.mk (below_step (below_alloc (Below.refl w.heap.size w) _) hb)
  have hcc := (bcell hb).1
  have hz1 : w.heap.size + 1 ≤ w1.heap.size := by have := hb.size; simp at this; omega
  have k0 : w1.cell? ⟨w.heap.size, 0, none⟩ = some (.string a) := by rw [hcc _ _ (by simp)]; go_simp
  have k1 : w1.cell? ⟨w.heap.size, 1, none⟩ = some (.int .u64 s) := by rw [hcc _ _ (by simp)]; go_simp
  have k2 : w1.cell? ⟨w.heap.size, 2, none⟩ = some (.int .i64 t) := by rw [hcc _ _ (by simp)]; go_simp
  clear ho hb hcc
  go_wp2_with fail
  (with_reducible refine (ikey_Valid.calls a s t _ _ HVAL.out).mono ?_)
  rintro e w2 ⟨rfl, hb⟩
  have HO2 := Aside0.mk (Kd.R_below HO1.out hb)
  have HB2 := Aside0.mk (below_step HB1.out hb)
  have k0 := pw_cell_below hb k0
  have k1 := pw_cell_below hb k1
  have k2 := pw_cell_below hb k2
  clear hb
  obtain ⟨A2, c2, rfl, hc2, hC2⟩ := Kd.R_reads HO2.out
  have HC2 := Aside0.mk hc2
  have HX2 := Aside0.mk hC2
  have ew : ((x.length : Int) != (a.size : Int) + 8) = false := by have := HLN.out; simp; omega
  clear hc2 hC2
  go_wp2_with fail
  (with_reducible refine (ikey_Decode.calls 12 A2 c2 x _ _ _ _ _ HX2.out HC2.out HD1.out).mono ?_)
  rintro e w3 ⟨rfl, hb⟩
  have HB3 := Aside0.mk (below_step HB2.out hb)
  have k0 := pw_cell_below hb k0
  have k1 := pw_cell_below hb k1
  have k2 := pw_cell_below hb k2
  have hz3 : w.heap.size < w3.heap.size := Nat.lt_of_lt_of_le (World.block_lt_of_cell? _ _ k0) (Nat.le_refl _)
  clear hb
  go_wp2_with fail
  (with_reducible refine (ikey_Decode.calls 12 A1 c1 l1 _ _ _ _ _ (Kd.C_below HR.out (below_alloc HB3.out _)) HC.out HDQ.out).mono ?_)
  rintro e w4 ⟨rfl, hb⟩
  have HB4 := Aside0.mk (below_step (below_alloc HB3.out _) hb)
  clear hb
  have hcv1 := Kd.C_string (P := Try.prog) (w := w4) (A := A1) (c := c1) Try.underlying47 Try.underlying5 Try.underlying9 (Kd.C_below HR.out HB4.out)
  clear hcv1
  go_wp2_with fail
  (with_reducible refine (ikey_Encode.calls 12 d0 d1 d2 _ _ _ HED.out).mono ?_)
  rintro e w5 ⟨v5, rfl, ho, hb⟩
  have HB5 := Aside0.mk (below_step (below_alloc HB4.out _) hb)
  have hcv5 := own_string (P := Try.prog) Try.underlying47 Try.underlying5 Try.underlying9 (Kd.own_of_R ho)
  have hcv1 := Kd.C_string (P := Try.prog) (w := w5) (A := A1) (c := c1) Try.underlying47 Try.underlying5 Try.underlying9 (Kd.C_below HR.out HB5.out)
  clear ho hb
  go_wp2
  go_ret
  exact ⟨by simp, HB5.out⟩
theorem IkeyBack_upto (w : World) (cs0 : Array Value) (x0 : (ByteArray × Int × Int)) (hK0 : (Kd.pair Kd.string (Kd.pair (Kd.int .u64) (Kd.int .i64))).K w x0 cs0.toList) (hg0 : x0.1.size ≤ maxLen ∧ (Lit.int .u64 x0.2.1).wf = true ∧ (Lit.int .i64 x0.2.2).wf = true)
    (A1 : Option Addr) (c1 : Nat) (l1 : List Int) (hc1 : l1.length ≤ c1) (hr1 : Kd.C (Kd.int .u8) w A1 l1.length l1) (hg1 : ∀ x ∈ l1, (Lit.int .u8 x).wf = true)
    (hbulk : (x0.1.size + 1 + 1 + 1 + 1) + ((sumBulk (fun _ => 1) l1 + 1)) ≤ 1048576) :
    Calls Try.prog 8 #[.agg cs0, .slice A1 l1.length c1] w fun e w' => e = .returned (.bool true) ∧ Below w.heap.size w w' := by
  obtain ⟨a, s, t⟩ := x0
  have hcs := open_ikey hK0
  subst hcs
  have n1 := sumBulk_len (fun _ => 1) (fun _ => Nat.le_refl 1) l1
  have hs : 0 ≤ s ∧ s ≤ 18446744073709551615 := by simpa [Lit.wf, IntKind.min, IntKind.max, IntKind.signed, IntKind.bits] using hg0.2.1
  have hb := bytes_of_wf hg1
  by_cases hq : (decR l1).2.2.2 = 0
  · cases hv : validOf a s t with
    | true => exact IkeyBack_calls_11 a s t A1 c1 l1 w hr1 hc1 hs.1 hb (by omega) hv hq
    | false => exact IkeyBack_calls_01 a s t A1 c1 l1 w hr1 hc1 hs.1 hb (by omega) hv hq
  · cases hv : validOf a s t with
    | true => exact IkeyBack_calls_10 a s t A1 c1 l1 w hr1 hc1 hs.1 hb (by omega) hv hq
    | false => exact IkeyBack_calls_00 a s t A1 c1 l1 w hr1 hc1 hs.1 hb (by omega) hv hq

end Go.Proofs.Ytdoolmomkffdaaa.G
