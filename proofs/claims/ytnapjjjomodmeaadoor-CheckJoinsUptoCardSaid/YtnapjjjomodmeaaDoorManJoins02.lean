/- Contracts typed by hand: morainelaw02.CheckJoins, walked -/
import Derived.Test.YtnapjjjomodmeaaDoorProg
import Derived.Below
import Derived.Deep.Draws
import Derived.Deep.AppendLies
import Derived.Maps.AppendAt
import Derived.OwnWalk
import Derived.Laws.BytesArg
import Derived.Laws.MakeOwn
import Derived.Laws.OwnMore
import Derived.Deep.OwnRows
import Derived.Tactics
import Derived.Lib.ConvBytes
import Derived.Laws.Slices
import Derived.WalkKit
import Derived.KernelRfl
import Derived.RowKit3
import Derived.Deep.LoopGhost
import Derived.Deep.QuietTactic
import Derived.BigQuiet
import Derived.WideLaws
import Derived.Deep.DeepCutAuto
import Derived.Deep.CutBlock
import Derived.Deep.RegionHeld3
import Derived.Laws.Rows
import Derived.Lib.AppendStr
import Derived.ArgAppend
import Derived.Laws.IdiomCopy
import Derived.OrdersHeld
import Derived.Laws.BitsLemmas
import Derived.RowKit
import Derived.Test.YtnapjjjomodmeaaDoorWWords
import Derived.Test.YtnapjjjomodmeaaDoorWLast
import Derived.Test.YtnapjjjomodmeaaDoorWTab
import Derived.Test.YtnapjjjomodmeaaDoorWFour
import Derived.Test.YtnapjjjomodmeaaDoorWQPut
import Derived.Test.YtnapjjjomodmeaaDoorWApart
import Derived.Test.YtnapjjjomodmeaaDoorWArr
import Derived.Test.YtnapjjjomodmeaaDoorWZeros
import Derived.Test.YtnapjjjomodmeaaDoorWFoot
import Derived.Test.YtnapjjjomodmeaaDoorWKept
import Derived.Test.YtnapjjjomodmeaaDoorWShare
import Derived.Test.YtnapjjjomodmeaaDoorWN
import Derived.Test.YtnapjjjomodmeaaDoorWFootNe
import Derived.Test.YtnapjjjomodmeaaDoorWAt
import Derived.Test.YtnapjjjomodmeaaDoorWEqStruct
import Derived.Test.YtnapjjjomodmeaaDoorWRepsOne
import Derived.Test.YtnapjjjomodmeaaDoorWInv
import Derived.Test.YtnapjjjomodmeaaDoorWInvWords
import Derived.Test.YtnapjjjomodmeaaDoorWGuard
import Derived.Test.YtnapjjjomodmeaaDoorWNEv
import Derived.Test.YtnapjjjomodmeaaDoorWMore
import Derived.Test.YtnapjjjomodmeaaDoorLawCheckJoins
import Derived.Test.YtnapjjjomodmeaaDoorOpens
import Derived.Test.YtnapjjjomodmeaaDoorGx11
namespace Go.Proofs.YtnapjjjomodmeaaDoor.G
open Go.RowKit Go.Proofs.YtnapjjjomodmeaaDoorW.PrintWords Go.Proofs.YtnapjjjomodmeaaDoorW.PrintLast Go.Proofs.YtnapjjjomodmeaaDoorW.PrintMore
attribute [local go_sem] max2_int min2_int max_two min_two max_three min_three max_four min_four
set_option linter.unusedVariables false
set_option linter.unusedSimpArgs false

/-! morainelaw02.CheckJoins, walked -/
theorem sumc (A : Option Addr) (c : Nat) (l : List Int) (w : World) (hC : Kd.C (Kd.int .u8) w A l.length l) (hc : l.length ≤ c) (hb : Byt l) (hl : l.length ≤ 1099511627776) (hT : TabAt w) :
    Calls Tryd.prog 11 #[.slice A l.length c] w fun e w' => e = .returned (.int .u32 ((ext 0 l : Nat) : Int)) ∧ Below w.heap.size w w' :=
  (check_Sum.calls (l.length + 1) A c l _ w hC hc (sum_eq _ l hb hl (Nat.le_refl _)) hT).mono fun e w' h => ⟨h.1, h.2.below⟩
theorem extc (A : Option Addr) (c s : Nat) (l : List Int) (w : World) (hs : s < 4294967296) (hC : Kd.C (Kd.int .u8) w A l.length l) (hc : l.length ≤ c) (hb : Byt l) (hl : l.length ≤ 1099511627776) (hT : TabAt w) :
    Calls Tryd.prog 13 #[.int .u32 (s : Int), .slice A l.length c] w fun e w' => e = .returned (.int .u32 ((ext s l : Nat) : Int)) ∧ Below w.heap.size w w' :=
  (check_Extend.calls (l.length + 1) (s : Int) A c l _ w hC hc (extend_eq _ s l hs hb hl (Nat.le_refl _)) hT).mono fun e w' h => ⟨h.1, h.2.below⟩
theorem addc (b : Nat) (A : Option Addr) (c : Nat) (l : List Int) (w : World) (h : RunAt w b 0 0) (hC : Kd.C (Kd.int .u8) w A l.length l) (hc : l.length ≤ c) (hb : Byt l) (hl : l.length ≤ 1048576) (hT : TabAt w) :
    Calls Tryd.prog 22 #[.pointer (some ⟨b, 0, none⟩), .slice A l.length c] w fun e w' => e = .returned (.int .i64 0) ∧ RunAt w' b ((ext 0 l : Nat) : Int) (l.length : Int) ∧ Touch b w w' := by
  have := add_calls (l.length + 1) b 0 0 A c l _ w h hC hc (extend_eq _ 0 l (by omega) hb (by omega) (Nat.le_refl _)) hT (by omega) (by omega)
  rw [Int.zero_add] at this
  exact this
theorem nums_size (l : List Int) : (strOfNums l).size = l.length := by
  rw [← bytesOf_length]
  unfold bytesOf
  rw [List.length_map, strOfNums_data, List.length_map]
theorem addtextc (b : Nat) (l : List Int) (w : World) (h : RunAt w b 0 0) (hb : Byt l) (hl : l.length ≤ 1048576) (hT : TabAt w) :
    Calls Tryd.prog 23 #[.pointer (some ⟨b, 0, none⟩), .string (strOfNums l)] w fun e w' => e = .returned (.int .i64 0) ∧ RunAt w' b ((ext 0 l : Nat) : Int) (l.length : Int) ∧ Touch b w w' := by
  have hz := nums_size l
  have := addtext_calls (l.length + 1) b 0 0 (strOfNums l) _ w h (exttext_eq _ 0 _ (by omega) (by omega) (by omega)) hT (by omega) (by omega)
  rw [Int.zero_add, hz, bytes_of_nums l hb] at this
  exact this
set_option maxHeartbeats 8000000 in
set_option maxRecDepth 100000 in
theorem joins_calls (w : World) (A0 : Option Addr) (c0 : Nat) (l0 : List Int) (A1 : Option Addr) (c1 : Nat) (l1 : List Int) (a2 : Int) (t : Nat) (hr0 : Kd.C (Kd.int .u8) w A0 l0.length l0) (hc0 : l0.length ≤ c0) (hr1 : Kd.C (Kd.int .u8) w A1 l1.length l1) (hc1 : l1.length ≤ c1)
    (hb0 : Byt l0) (hb1 : Byt l1) (hl : l0.length + l1.length ≤ 1048576) (h1 : t < 3000) (ha : morainelaw02_among.f a2 3000 = some (t : Int)) (hTab : TabAt w) :
    Calls Tryd.prog 8 #[.slice A0 l0.length c0, .slice A1 l1.length c1, .int .i64 a2] w fun e w' => e = .returned (.bool true) ∧ Below w.heap.size w w' := by
  obtain ⟨y, hy⟩ : ∃ y, l0 ++ l1 = y := ⟨_, rfl⟩
  have HY := Aside0.mk hy
  have HR0 := Aside0.mk hr0
  have HR1 := Aside0.mk hr1
  have HC0 := Aside0.mk hc0
  have HC1 := Aside0.mk hc1
  have HB0 := Aside0.mk hb0
  have HB1 := Aside0.mk hb1
  have HLEN := Aside0.mk hl
  have HA := Aside0.mk ha
  have HT := Aside0.mk hTab
  have hinfo : (Tryd.prog.info? 5).map (fun i => (i.zero, i.size, i.bytes)) = some (some (.int .u8 0), 1, 1) := by kernel_rfl
  have HI := Aside0.mk hinfo
  have HT1 := Aside0.mk h1
  clear hy hr0 hr1 hc0 hc1 hb0 hb1 hl ha hTab hinfo h1
  go_enter Tryd.func8, Tryd.ntmps8
  go_wp2_with (first
    | (go_at_call 16; (with_reducible refine (morainelaw02_works.calls 10 true _ (works_eq 10 (by decide)) HT.out).mono ?_); rintro e w1 ⟨rfl, hb⟩; have HW1 := Aside0.mk hb; clear hb)
    | (go_at_call 17; (with_reducible refine (morainelaw02_among.calls a2 3000 _ _ HA.out).mono ?_); rintro e w2 ⟨rfl, hd⟩; have HW2 := Aside0.mk (below_step HW1.out hd.below); clear hd)
    | ((with_reducible refine gate_dst (N := 20) rfl ?_); refine Kd.R_lit (Kd.int .u8) _ 5 ?hg (N := 20) ?hd (xs := ([] : List Int)) (inner := []) (ok := fun _ => True) (okp := fun _ => True) ?hr ?hp (fun _ hk => hk) trivial (Below.refl _ _) (Nat.le_refl _) (by simp) ?_; (case hd => rfl); (case hg => rfl); (case hr => first | (go_simp; done) | (go_simp; rfl)); (case hp => exact (Reps.none _ _)); intro v20 w3 ho hb hg_ hnew_; clear hg_ hnew_; have HO1 := Aside0.mk (Kd.R_lower ho HW2.out.size); have HW3 := Aside0.mk (below_step HW2.out hb); clear hb ho)
    | ((with_reducible refine gate_builtin (b := .append) (xs := #[.tmp 20, .tmp 21]) rfl ?_); at_builtin; refine Kd.R_append_rows (Kd.int .u8) (w0 := w) w.heap.size rfl (.tmp 20) (.tmp 21) 22 5 (.int .u8 0) 1 rfl Tryd.underlying22 HI.out rfl (by decide) (by omega) v20 [] l0 _ _ _ (fun _ => True) (fun _ => False) rfl rfl ?aO ?aR (fun _ _ h => h) (fun _ h => h.elim) (fun _ _ => trivial) ?aB ?aS ?aL ?_; (case aR => exact (Kd.C_below HR0.out HW3.out)); (case aB => exact HW3.out); (case aO => exact HO1.out); (case aS => exact HW3.out.size); (case aL => have := HLEN.out; simp; omega); intro v22 w4 ho hb hg hat; have HO2 := Aside0.mk ho; have HW4 := Aside0.mk hb; clear ho hb hg hat)
    | ((with_reducible refine gate_builtin (b := .append) (xs := #[.tmp 22, .tmp 23]) rfl ?_); at_builtin; refine Kd.R_append_rows (Kd.int .u8) (w0 := w) w.heap.size rfl (.tmp 22) (.tmp 23) 22 5 (.int .u8 0) 1 rfl Tryd.underlying22 HI.out rfl (by decide) (by omega) v22 ([] ++ l0) l1 _ _ _ (fun _ => True) (fun _ => False) rfl rfl ?aO ?aR (fun _ _ h => h) (fun _ h => h.elim) (fun _ _ => trivial) ?aB ?aS ?aL ?_; (case aR => exact (Kd.C_below HR1.out HW4.out)); (case aB => exact HW4.out); (case aO => exact HO2.out); (case aS => exact HW4.out.size); (case aL => have := HLEN.out; simp; omega); intro v24 w5 ho hb hg hat; rw [List.nil_append, HY.out] at ho; obtain ⟨A3, c3, rfl, hl3, hC3⟩ := Kd.R_reads ho; have HO3 := Aside0.mk hC3; have HW5 := Aside0.mk hb; have HC3 := Aside0.mk hl3; clear ho hb hg hat hC3 hl3))
  have HBY := Aside0.mk (show Byt y by rw [← HY.out]; exact HB0.out.append HB1.out)
  have HLY := Aside0.mk (show y.length = l0.length + l1.length by rw [← HY.out, List.length_append])
  have HL0 := Aside0.mk (show l0.length ≤ 1048576 ∧ l1.length ≤ 1048576 by have := HLEN.out; omega)
  have HCO := Aside0.mk (show check_Combine.f ((ext 0 l0 : Nat) : Int) ((ext 0 l1 : Nat) : Int) (l1.length : Int) = some (((ext 0 y : Nat) : Int), 0) by rw [← HY.out]; exact combine_eq l0 l1 HB0.out HB1.out (by have := HL0.out; omega))
  (with_reducible refine (sumc A3 c3 y _ HO3.out HC3.out HBY.out (by have := HLY.out; have := HLEN.out; omega) (HT.out.below HW5.out)).mono ?_)
  rintro e w6 ⟨rfl, hb⟩
  have HW6 := Aside0.mk (below_step HW5.out hb)
  have HO6 := Aside0.mk (Kd.C_below HO3.out hb)
  clear hb
  go_wp2_with fail
  (with_reducible refine (sumc A0 c0 l0 _ (Kd.C_below HR0.out HW6.out) HC0.out HB0.out (by have := HL0.out; omega) (HT.out.below HW6.out)).mono ?_)
  rintro e w7 ⟨rfl, hb⟩
  have HW7 := Aside0.mk (below_step HW6.out hb)
  have HO7 := Aside0.mk (Kd.C_below HO6.out hb)
  clear hb
  go_wp2_with fail
  (with_reducible refine (sumc A1 c1 l1 _ (Kd.C_below HR1.out HW7.out) HC1.out HB1.out (by have := HL0.out; omega) (HT.out.below HW7.out)).mono ?_)
  rintro e w8 ⟨rfl, hb⟩
  have HW8 := Aside0.mk (below_step HW7.out hb)
  have HO8 := Aside0.mk (Kd.C_below HO7.out hb)
  clear hb
  go_wp2_with fail
  (with_reducible refine (check_Combine.calls _ _ _ _ _ _ HCO.out).mono ?_)
  rintro e w9 ⟨rfl, hb⟩
  have HW9 := Aside0.mk (below_step HW8.out hb)
  have HO9 := Aside0.mk (Kd.C_below HO8.out hb)
  clear hb
  go_wp2_with fail
  (with_reducible refine (new_calls _).mono ?_)
  rintro e w10 ⟨rfl, hr, hb⟩
  have HG10 := Aside0.mk hr
  have HW10 := Aside0.mk (below_step HW9.out hb)
  have HK10 := Aside0.mk hb
  clear hb hr
  go_wp2_with fail
  (with_reducible refine (new_calls _).mono ?_)
  rintro e w11 ⟨rfl, hr, hb⟩
  have HH11 := Aside0.mk hr
  have HG11 := Aside0.mk (HG10.out.below hb)
  have HW11 := Aside0.mk (below_step HW10.out hb)
  have HK11 := Aside0.mk (below_step HK10.out hb)
  have HNE := Aside0.mk (show w9.heap.size ≠ w10.heap.size from Nat.ne_of_lt HG10.out.lt)
  clear hb hr
  go_wp2_with fail
  (with_reducible refine (addc _ A0 c0 l0 _ HG11.out (Kd.C_below HR0.out HW11.out) HC0.out HB0.out HL0.out.1 (HT.out.below HW11.out)).mono ?_)
  rintro e w12 ⟨rfl, hr, ht⟩
  have HG12 := Aside0.mk hr
  have HH12 := Aside0.mk (HH11.out.touch HNE.out.symm ht)
  have HW12 := Aside0.mk (ht.below HW11.out HW9.out.size)
  have HK12 := Aside0.mk (ht.below HK11.out (Nat.le_refl _))
  have hcv := Kd.C_string (P := Tryd.prog) (w := w12) (A := A1) (c := c1) Tryd.underlying22 Tryd.underlying5 Tryd.underlying9 (Kd.C_below HR1.out HW12.out)
  clear hr ht
  go_wp2_with fail
  (with_reducible refine (addtextc _ l1 _ HH12.out HB1.out HL0.out.2 (HT.out.below HW12.out)).mono ?_)
  rintro e w13 ⟨rfl, hr, ht⟩
  have HH13 := Aside0.mk hr
  have HG13 := Aside0.mk (HG12.out.touch HNE.out ht)
  have HW13 := Aside0.mk (ht.below HW12.out HW10.out.size)
  have HK13 := Aside0.mk (ht.below HK12.out HK10.out.size)
  clear hr ht hcv
  go_wp2_with fail
  (with_reducible refine (join_calls _ _ _ _ _ _ _ _ HG13.out HH13.out HNE.out HCO.out (Int.natCast_nonneg _) (Int.natCast_nonneg _) (by have := HL0.out; omega)).mono ?_)
  rintro e w14 ⟨rfl, hr, ht⟩
  have HG14 := Aside0.mk hr
  have HH14 := Aside0.mk (HH13.out.touch HNE.out.symm ht)
  have HW14 := Aside0.mk (ht.below HW13.out HW9.out.size)
  have HK14 := Aside0.mk (ht.below HK13.out (Nat.le_refl _))
  have HO14 := Aside0.mk (Kd.C_below HO9.out HK14.out)
  clear hr ht
  go_wp2_with fail
  have HZC := Aside0.mk (zeros_eq y t HBY.out (by have := HT1.out; omega))
  obtain ⟨z, hz⟩ : ∃ z, y ++ List.replicate t 0 = z := ⟨_, rfl⟩
  have HZ := Aside0.mk hz
  have HZL := Aside0.mk (show z.length ≤ 2000000 by rw [← hz, List.length_append, List.length_replicate, HLY.out]; have := HT1.out; have := HLEN.out; omega)
  have HBZ := Aside0.mk (show Byt z by rw [← hz]; exact HBY.out.append (fun x hx => by obtain ⟨_, rfl⟩ := List.mem_replicate.1 hx; omega))
  clear hz
  (with_reducible refine (check_Zeros.calls _ _ _ _ _ HZC.out).mono ?_)
  rintro e w15 ⟨rfl, hb⟩
  have HG15 := Aside0.mk (HG14.out.below hb)
  have HH15 := Aside0.mk (HH14.out.below hb)
  have HW15 := Aside0.mk (below_step HW14.out hb)
  have HO15 := Aside0.mk (Kd.C_below HO14.out hb)
  clear hb
  rw [HZ.out]
  go_wp2_with (first
    | ((with_reducible refine gate_dst (N := 70) rfl ?_); refine Kd.R_lit (Kd.int .u8) _ 5 ?hg (N := 70) ?hd (xs := ([] : List Int)) (inner := []) (ok := fun _ => True) (okp := fun _ => True) ?hr ?hp (fun _ hk => hk) trivial (Below.refl _ _) (Nat.le_refl _) (by simp) ?_; (case hd => rfl); (case hg => rfl); (case hr => first | (go_simp; done) | (go_simp; rfl)); (case hp => exact (Reps.none _ _)); intro v70 w16 ho hb hg_ hnew_; clear hg_ hnew_; have HO16 := Aside0.mk ho; have HN16 := Aside0.mk hb; clear hb ho)
    | ((with_reducible refine gate_builtin (b := .append) (xs := #[.tmp 70, .tmp 71]) rfl ?_); at_builtin; refine Kd.R_append_rows (Kd.int .u8) (w0 := w15) w15.heap.size rfl (.tmp 70) (.tmp 71) 22 5 (.int .u8 0) 1 rfl Tryd.underlying22 HI.out rfl (by decide) (by omega) v70 [] y _ _ _ (fun _ => True) (fun _ => False) rfl rfl ?aO ?aR (fun _ _ h => h) (fun _ h => h.elim) (fun _ _ => trivial) ?aB ?aS ?aL ?_; (case aR => exact (Kd.C_below HO15.out HN16.out)); (case aB => exact HN16.out); (case aO => exact HO16.out); (case aS => exact HN16.out.size); (case aL => have := HLEN.out; have := HLY.out; simp; omega); intro v72 w17 ho hb hg hat; rw [List.nil_append] at ho; have HO17 := Aside0.mk ho; have HN17 := Aside0.mk hb; clear ho hb hg hat)
    | ((with_reducible refine gate_builtin (b := .append) (xs := #[.tmp 72, .tmp 73]) rfl ?_); at_builtin; refine Kd.R_append_zeros (Kd.int .u8) (w0 := w15) w15.heap.size rfl (.tmp 72) (.tmp 73) 22 3 5 (.int .u8 0) 1 rfl Tryd.underlying22 Tryd.underlying3 HI.out rfl (by decide) (by omega) v72 y (0 : Int) (t : Int) (fun _ => True) rfl rfl ?aZ (fun _ _ => trivial) ?aO ?a0 ?aB ?aS ?aL ?_; (case aZ => exact rfl); (case aO => exact HO17.out); (case a0 => exact Int.natCast_nonneg _); (case aB => exact HN17.out); (case aS => exact HN17.out.size); (case aL => have := HLEN.out; have := HLY.out; have := HT1.out; rw [Int.toNat_natCast]; omega); intro v74 w18 ho hb hg hat; rw [Int.toNat_natCast, HZ.out] at ho; obtain ⟨A4, c4, rfl, hl4, hC4⟩ := Kd.R_reads ho; have HO18 := Aside0.mk hC4; have HC4 := Aside0.mk hl4; have HN18 := Aside0.mk hb; have HW18 := Aside0.mk (below_step HW15.out hb); clear ho hb hg hat hl4 hC4))
  have hly : (y.length : Int) = (l0.length : Int) + (l1.length : Int) := by have := HLY.out; omega
  (with_reducible refine (sumc A0 c0 l0 _ (Kd.C_below HR0.out HW18.out) HC0.out HB0.out (by have := HL0.out; omega) (HT.out.below HW18.out)).mono ?_)
  rintro e w19 ⟨rfl, hb⟩
  have HN19 := Aside0.mk (below_step HN18.out hb)
  have HW19 := Aside0.mk (below_step HW18.out hb)
  have HO19 := Aside0.mk (Kd.C_below HO18.out hb)
  clear hb
  go_wp2_with fail
  (with_reducible refine (extc A1 c1 (ext 0 l0) l1 _ (ext_lt (by omega) HB0.out) (Kd.C_below HR1.out HW19.out) HC1.out HB1.out (by have := HL0.out; omega) (HT.out.below HW19.out)).mono ?_)
  rintro e w20 ⟨rfl, hb⟩
  have HN20 := Aside0.mk (below_step HN19.out hb)
  have HW20 := Aside0.mk (below_step HW19.out hb)
  have HO20 := Aside0.mk (Kd.C_below HO19.out hb)
  have HG20 := Aside0.mk (HG15.out.below HN20.out)
  have HH20 := Aside0.mk (HH15.out.below HN20.out)
  clear hb
  rw [← ext_append, HY.out]
  go_wp2_with (first
    | (go_at_call 26; (with_reducible refine (sum_calls _ _ _ _ HG20.out).mono ?_); rintro e w21 ⟨rfl, rfl⟩)
    | (go_at_call 27; (with_reducible refine (len_calls w9.heap.size _ _ _ HG20.out).mono ?_); rintro e w21 ⟨rfl, rfl⟩)
    | (go_at_call 27; (with_reducible refine (len_calls w10.heap.size _ _ _ HH20.out).mono ?_); rintro e w21 ⟨rfl, rfl⟩)
    | (go_at_call 11; (with_reducible refine (sumc A4 c4 z _ HO20.out HC4.out HBZ.out (by have := HZL.out; omega) (HT.out.below HW20.out)).mono ?_); rintro e w22 ⟨rfl, hb⟩; have HW22 := Aside0.mk (below_step HW20.out hb); clear hb))
  go_ret
  exact ⟨rfl, HW22.out⟩
theorem among_nat (x n : Int) (hn : 0 < n) (hn2 : n ≤ 1099511627776) : ∃ t : Nat, (t : Int) < n ∧ morainelaw02_among.f x n = some (t : Int) := by
  have r1 : -n < Int.tmod x n := by
    have := Int.lt_tmod_of_pos x hn
    omega
  have r2 : Int.tmod x n < n := Int.tmod_lt_of_pos x hn
  have e : wrap64 (Int.tmod x n + n) = Int.tmod x n + n := wr _ (by omega) (by omega)
  have h0 : 0 ≤ Int.tmod x n + n := by omega
  refine ⟨((Int.tmod x n + n) % n).toNat, ?_, ?_⟩
  · have := Int.emod_lt_of_pos (Int.tmod x n + n) hn
    have := Int.emod_nonneg (Int.tmod x n + n) (show n ≠ 0 by omega)
    omega
  · unfold morainelaw02_among.f
    rw [if_neg (by omega), e, Int.tmod_eq_emod_of_nonneg h0]
    have := Int.emod_nonneg (Int.tmod x n + n) (show n ≠ 0 by omega)
    congr 1
    omega
theorem CheckJoins_upto (w : World) (A0 : Option Addr) (c0 : Nat) (l0 : List Int) (hc0 : l0.length ≤ c0) (hr0 : Kd.C (Kd.int .u8) w A0 l0.length l0) (hg0 : ∀ x ∈ l0, (Lit.int .u8 x).wf = true)
    (A1 : Option Addr) (c1 : Nat) (l1 : List Int) (hc1 : l1.length ≤ c1) (hr1 : Kd.C (Kd.int .u8) w A1 l1.length l1) (hg1 : ∀ x ∈ l1, (Lit.int .u8 x).wf = true) (a2 : Int) (_hg2 : (Lit.int .i64 a2).wf = true)
    (hbulk : (sumBulk (fun _ => 1) l0 + 1) + ((sumBulk (fun _ => 1) l1 + 1) + 1) ≤ 1048576) (hTab : TabAt w) :
    Calls Tryd.prog 8 #[.slice A0 l0.length c0, .slice A1 l1.length c1, .int .i64 a2] w fun e w' => e = .returned (.bool true) ∧ Below w.heap.size w w' := by
  have n0 := sumBulk_len (fun _ => 1) (fun _ => Nat.le_refl 1) l0
  have n1 := sumBulk_len (fun _ => 1) (fun _ => Nat.le_refl 1) l1
  (try simp only [] at hbulk)
  obtain ⟨t, ht, hm⟩ := among_nat a2 3000 (by omega) (by omega)
  exact joins_calls w A0 c0 l0 A1 c1 l1 a2 t hr0 hc0 hr1 hc1 (byt_of_wf hg0) (byt_of_wf hg1) (by omega) (by omega) hm hTab

end Go.Proofs.YtnapjjjomodmeaaDoor.G
