/- Contracts of functions and plain laws, several texts of the session put together by its program. -/
import Derived.Test.YthkooncibfkepaaProg
import Derived.Below
import Derived.Deep.Draws
import Derived.Deep.AppendLies
import Derived.Maps.AppendAt
import Derived.OwnWalk
import Derived.Laws.BytesArg
import Derived.Laws.MakeOwn
import Derived.Laws.OwnMore
import Derived.Deep.OwnRows
import Derived.Tactics
import Derived.Lib.ConvBytes
import Derived.Laws.Slices
import Derived.WalkKit
import Derived.KernelRfl
import Derived.RowKit3
import Derived.Deep.LoopGhost
import Derived.Deep.QuietTactic
import Derived.BigQuiet
import Derived.WideLaws
import Derived.Deep.DeepCutAuto
import Derived.Deep.CutBlock
import Derived.Deep.RegionHeld3
import Derived.Laws.Rows
import Derived.Lib.AppendStr
import Derived.ArgAppend
import Derived.Laws.IdiomCopy
import Derived.OrdersHeld
import Derived.Laws.BitsLemmas
import Derived.RowKit
import Derived.Test.YthkooncibfkepaaWWords
import Derived.Test.YthkooncibfkepaaWLast
import Derived.Test.YthkooncibfkepaaWTab
import Derived.Test.YthkooncibfkepaaWFour
import Derived.Test.YthkooncibfkepaaWQPut
import Derived.Test.YthkooncibfkepaaWApart
import Derived.Test.YthkooncibfkepaaWArr
import Derived.Test.YthkooncibfkepaaWZeros
import Derived.Test.YthkooncibfkepaaWFoot
import Derived.Test.YthkooncibfkepaaWKept
import Derived.Test.YthkooncibfkepaaWShare
import Derived.Test.YthkooncibfkepaaWN
import Derived.Test.YthkooncibfkepaaWFootNe
import Derived.Test.YthkooncibfkepaaWAt
import Derived.Test.YthkooncibfkepaaWEqStruct
import Derived.Test.YthkooncibfkepaaWRepsOne
import Derived.Test.YthkooncibfkepaaWInv
import Derived.Test.YthkooncibfkepaaWInvWords
import Derived.Test.YthkooncibfkepaaWGuard
import Derived.Test.YthkooncibfkepaaWNEv
import Derived.Test.YthkooncibfkepaaWMore
import Derived.Test.YthkooncibfkepaaQ3
import Derived.Test.YthkooncibfkepaaQ2
import Derived.Test.YthkooncibfkepaaQ1

/- Contracts typed by hand: the law BatchDecodes: its walk -/
namespace Go.Proofs.Ythkooncibfkepaa.G
open Go.RowKit Go.Proofs.YthkooncibfkepaaW.PrintWords Go.Proofs.YthkooncibfkepaaW.PrintLast Go.Proofs.YthkooncibfkepaaW.PrintMore
attribute [local go_sem] max2_int min2_int max_two min_two max_three min_three max_four min_four
set_option linter.unusedVariables false
set_option linter.unusedSimpArgs false

/-! the law BatchDecodes: its walk -/
theorem same_calls' (A0 : Option Addr) (c0 : Nat) (l : List Op04) (A1 : Option Addr) (c1 : Nat) (m : Nat) (hm : l.length = m) (w : World) (hr0 : Kd.C k65 w A0 l.length l) (hc0 : m ≤ c0) (hr1 : Kd.C k65 w A1 l.length l) (hc1 : m ≤ c1) (hl : m ≤ 1099511627776) :
    Calls Try.prog 37 #[.slice A0 m c0, .slice A1 m c1] w fun e w' => e = .returned (.bool true) ∧ Drawn0 w w' := by
  subst hm
  exact morainelaw04_same.calls _ A0 c0 l A1 c1 l _ _ hr0 hc0 hr1 hc1 (same_self l hl)
set_option maxHeartbeats 8000000 in
set_option maxRecDepth 100000 in
theorem BatchDecodes_calls (A0 : Option Addr) (c0 : Nat) (l0 : List Int) (w : World) (hr0 : Kd.C (Kd.int .u8) w A0 l0.length l0) (hc0 : l0.length ≤ c0) (hb0 : Bytes l0) (hl : l0.length ≤ 1048576) (q : Int) (L : List Op04) (z : Int) (hLl : L.length ≤ 1048576) (hd : decB l0 = (q, L, z)) (h1 h2 h3 : Int) (hh : headR l0 = (h1, h2, h3)) :
    Calls Try.prog 6 #[.slice A0 l0.length c0] w fun e w' => e = .returned (.bool true) ∧ Below w.heap.size w w' := by
  have HR := Aside0.mk hr0
  have HC := Aside0.mk hc0
  have HY := Aside0.mk hb0
  have HL := Aside0.mk hl
  have HL2 := Aside0.mk (show l0.length ≤ 140737488355000 by omega)
  have HLL := Aside0.mk hLl
  have HLL2 := Aside0.mk (show L.length ≤ 1099511627776 by omega)
  have HD := Aside0.mk hd
  have H2 := Aside0.mk (by rw [← hd]; exact refdecode_eq l0 _ hb0 hl (Nat.le_refl _) : moraineref04_Decode.f (12 + l0.length) l0 = some (q, L, z))
  have H3 := Aside0.mk (by rw [← hh]; exact head_eq 10 l0 hb0 (by omega) (Nat.le_refl _) : batch_Head.f 10 l0 = some (h1, h2, h3))
  have H4 := Aside0.mk (by rw [← hh]; exact refhead_eq l0 10 hb0 hl (Nat.le_refl _) : moraineref04_Head.f 10 l0 = some (h1, h2, h3))
  clear hr0 hc0 hb0 hl hLl hd hh
  go_enter Try.func6, Try.ntmps6
  go_wp2_with fail
  (with_reducible refine (morainelaw04_lent.calls _ _ l0 _ HR.out HC.out HL2.out).mono ?_)
  rintro e w1 ⟨Ai, ci, rfl, ho, hb⟩
  have HB1 := Aside0.mk hb
  have HI := Aside0.mk ho
  have HIN := Aside0.mk (Kd.R_reads' ho)
  have HP1 := Aside0.mk (C_prefix (ys := [90]) (by simpa using (Kd.R_reads' ho).2.2))
  have HPC := Aside0.mk (show l0.length ≤ ci by have := HIN.out.2.1; omega)
  clear ho hb
  go_wp2_with fail
  (with_reducible refine (batch_Decode_calls' Ai ci l0 _ _ HP1.out HPC.out HY.out HL.out HD.out).mono ?_)
  rintro e w2 ⟨v2, rfl, ho, hb⟩
  have HA := Aside0.mk (Kd.R_newR ho HI.out)
  have HI2 := Aside0.mk (Kd.R_below HI.out hb)
  have HB2 := Aside0.mk (below_step HB1.out hb)
  have HN2 := Aside0.mk hb
  clear hb ho
  go_wp2_with fail
  (with_reducible refine (batch_Decode_calls' Ai ci l0 _ _ (Kd.C_below HP1.out HN2.out) HPC.out HY.out HL.out HD.out).mono ?_)
  rintro e w3 ⟨v3, rfl, ho, hb⟩
  have HG := Aside0.mk (Kd.R_newR (Kd.R_newR ho HA.out) HI2.out)
  have HA3 := Aside0.mk (Kd.R_below HA.out hb)
  have HI3 := Aside0.mk (Kd.R_below HI2.out hb)
  have HB3 := Aside0.mk (below_step HB2.out hb)
  have HN3 := Aside0.mk (below_step HN2.out hb)
  clear hb ho HA HI2
  go_wp2_with fail
  (with_reducible refine (moraineref04_Decode.calls _ A0 c0 l0 _ _ _ _ (Kd.C_below HR.out HB3.out) HC.out H2.out).mono ?_)
  rintro e w4 ⟨v4, rfl, ho, hb⟩
  have HW := Aside0.mk (Kd.R_newR (Kd.R_newR ho HA3.out) HI3.out)
  have HG4 := Aside0.mk (Kd.R_below HG.out hb)
  have HA4 := Aside0.mk (Kd.R_below HA3.out hb)
  have HI4 := Aside0.mk (Kd.R_below HI3.out hb)
  have HB4 := Aside0.mk (below_step HB3.out hb)
  have HN4 := Aside0.mk (below_step HN3.out hb)
  clear hb ho HG HA3 HI3
  go_wp2_with fail
  (with_reducible refine (batch_Head.calls _ Ai ci l0 _ _ _ _ (Kd.C_below HP1.out HN4.out) HPC.out H3.out).mono ?_)
  rintro e w5 ⟨rfl, hd5⟩
  have hb := hd5.below
  have HW5 := Aside0.mk (Kd.R_below HW.out hb)
  have HG5 := Aside0.mk (Kd.R_below HG4.out hb)
  have HA5 := Aside0.mk (Kd.R_below HA4.out hb)
  have HI5 := Aside0.mk (Kd.R_below HI4.out hb)
  have HB5 := Aside0.mk (below_step HB4.out hb)
  have HN5 := Aside0.mk (below_step HN4.out hb)
  clear hb hd5 HW HG4 HA4 HI4
  go_wp2_with fail
  (with_reducible refine (moraineref04_Head.calls _ A0 c0 l0 _ _ _ _ (Kd.C_below HR.out HB5.out) HC.out H4.out).mono ?_)
  rintro e w6 ⟨rfl, hd6⟩
  have hb := hd6.below
  have HW6 := Aside0.mk (Kd.R_below HW5.out hb)
  have HG6 := Aside0.mk (Kd.R_below HG5.out hb)
  have HA6 := Aside0.mk (Kd.R_below HA5.out hb)
  have HI6 := Aside0.mk (Kd.R_below HI5.out hb)
  have HB6 := Aside0.mk (below_step HB5.out hb)
  have HN6 := Aside0.mk (below_step HN5.out hb)
  clear hb hd6 HW5 HG5 HA5 HI5
  obtain ⟨A2, c2, rfl, hl2, hC2⟩ := Kd.R_reads HA6.out
  obtain ⟨A3, c3, rfl, hl3, hC3⟩ := Kd.R_reads HG6.out
  obtain ⟨A4, c4, rfl, hl4, hC4⟩ := Kd.R_reads HW6.out
  have HCA := Aside0.mk hC2
  have HCW := Aside0.mk hC4
  have HLA := Aside0.mk hl2
  have HLG := Aside0.mk hl3
  have HLW := Aside0.mk hl4
  clear hl2 hC2 hl3 hC3 hl4 hC4
  go_wp2_with fail
  (with_reducible refine (morainelaw04_same.calls _ A2 c2 L A4 c4 L _ _ HCA.out HLA.out HCW.out HLW.out (same_self L HLL2.out)).mono ?_)
  rintro e w7 ⟨rfl, hd7⟩
  have hb := hd7.below
  have HW7 := Aside0.mk (Kd.R_below HW6.out hb)
  have HG7 := Aside0.mk (Kd.R_below HG6.out hb)
  have HA7 := Aside0.mk (Kd.R_below HA6.out hb)
  have HI7 := Aside0.mk (Kd.R_below HI6.out hb)
  have HB7 := Aside0.mk (below_step HB6.out hb)
  have HN7 := Aside0.mk (below_step HN6.out hb)
  clear hb hd7 HW6 HG6 HA6 HI6 HCA HCW
  go_wp2_with fail
  (with_reducible refine (morainelaw04_kept.calls Ai ci l0 _ _ _ (Kd.C_below (by simpa using HIN.out.2.2) HN7.out) HIN.out.2.1 (Kd.C_below HR.out HB7.out) HL2.out).mono ?_)
  rintro e w8 ⟨rfl, hd8⟩
  have hb := hd8.below
  have HW8 := Aside0.mk (Kd.R_below HW7.out hb)
  have HG8 := Aside0.mk (Kd.R_below HG7.out hb)
  have HA8 := Aside0.mk (Kd.R_below HA7.out hb)
  have HI8 := Aside0.mk (Kd.R_below HI7.out hb)
  have HB8 := Aside0.mk (below_step HB7.out hb)
  clear hb hd8 HW7 HG7 HA7 HI7
  go_wp2_with fail
  (with_reducible refine (morainelaw04_names.calls true _ rfl).mono ?_)
  rintro e w9 ⟨rfl, hd9⟩
  have hb := hd9.below
  have HW9 := Aside0.mk (Kd.R_below HW8.out hb)
  have HG9 := Aside0.mk (Kd.R_below HG8.out hb)
  have HA9 := Aside0.mk (Kd.R_below HA8.out hb)
  have HI9 := Aside0.mk (Kd.R_below HI8.out hb)
  have HB9 := Aside0.mk (below_step HB8.out hb)
  have HS1 := Aside0.mk (show w.heap.size ≤ w1.heap.size from HB1.out.size)
  clear hb hd9 HW8 HG8 HA8 HI8
  have hn9 : (l0 ++ [90]).length = l0.length + 1 := lent_len l0
  generalize hn : l0.length = n at *
  have HNN := Aside0.mk hn9
  have HLN := HL2.out
  clear hn hn9
  go_wp2
  go_loopw [19] (fun v19 wr => ∃ (j : Nat) (xs : List Int), v19 = .int .i64 (j : Int) ∧ j ≤ n ∧ Aside0 (xs.length = n + 1) ∧ Aside0 (Kd.R (Kd.int .u8) 5 wr w.heap.size (fun _ => True) (.slice Ai (n + 1) ci) xs) ∧ Aside0 (Kept w9 wr (fun k_ => some k_ = (Value.slice Ai (n + 1) ci).ownBlock)) ∧ Aside0 (Below w.heap.size w wr)) (fun v19 _ => n - (intOf v19).toNat)
  case atStart => exact ⟨0, _, rfl, by omega, HNN, HI9, ⟨Kept.refl _ _⟩, HB9⟩
  case round =>
    obtain ⟨j, xs, rfl, hjn, HXL, HX, HK, HB⟩ := hrel
    by_cases hlt : j < n
    · have b1 : decide ((j : Int) < (n : Int)) = true := decide_eq_true (by omega)
      have hxl := HXL.out
      obtain ⟨g, cg, eg, gb, gl, cl, HGX⟩ := Kd.R_form HX.out (by omega)
      injection eg with ea en ec
      subst ea
      clear en ec
      have GB := Aside0.mk gb
      have hxx := Kd.R_celln 0 HX.out (j : Int) (by omega) (by omega)
      obtain ⟨hx, hf⟩ := hxx
      rw [Int.toNat_natCast] at hx hf
      obtain ⟨u, hu⟩ : ∃ u, rdOf 0 xs (j : Int) = u := ⟨_, rfl⟩
      rw [hu] at hx
      clear hu
      have HP := Kd.R_putg HX.out (j : Int) (IntKind.u8.wrap (u + 1))
      rw [Int.toNat_natCast] at HP
      have HP2 := Aside0.mk HP
      have ew : wrap64 ((j : Int) + 1) = ((j + 1 : Nat) : Int) := by unfold wrap64; omega
      have hxl2 : (xs.set j (IntKind.u8.wrap (u + 1))).length = n + 1 := by rw [List.length_set]; exact hxl
      have HXL2 := Aside0.mk hxl2
      clear HGX gb gl HP hxl hxl2
      go_wp2_with (first | ((with_reducible refine gate_store (t := 5) (p := 105) rfl ?_); refine store_event (t := 5) (p := 105) (v := ?vo) (w1 := (wr.setCell ⟨g, j, none⟩ (.int .u8 (IntKind.u8.wrap (u + 1))))) ?hg ?ho ?hn ?hr ?_; (case ho => rfl); (case hg => rfl); (case hn => rfl); (case hr => first | (go_simp; done) | (go_simp; rfl)); intro w13 hw; have HX2 := Aside0.mk (show Kd.R (Kd.int .u8) 5 w13 w.heap.size (fun _ => True) (.slice (some ⟨g, 0, none⟩) (n + 1) ci) (xs.set j (IntKind.u8.wrap (u + 1))) by rw [hw]; exact HP2.out.1); have HG13 := Aside0.mk (show wr.grownBy w13 (some g) by rw [hw]; exact HP2.out.2); have HK13 := Aside0.mk (Kept.of_grown HG13.out HK.out (fun k_ e_ => .inl e_.symm)); have HB13 := Aside0.mk (HB.out.grown HG13.out HB.out.size (fun k_ e_ => (Option.some.inj e_) ▸ GB.out)); clear hw))
      go_roundw
      case rel => exact ⟨j + 1, _, by go_num, by omega, HXL2, HX2, HK13, HB13⟩
      case measure => simp only [intOf]; omega
    · have b1 : decide ((j : Int) < (n : Int)) = false := decide_eq_false (by omega)
      have HW10 := Aside0.mk (Kd.R_kept HW9.out HK.out (fun k_ hk he => hk.2 he))
      have HG10 := Aside0.mk (Kd.R_kept HG9.out HK.out (fun k_ hk he => hk.2 he))
      have HA10 := Aside0.mk (Kd.R_kept HA9.out HK.out (fun k_ hk he => hk.2 he))
      have HBX := Aside0.mk HB.out
      clear HX HK HXL
      go_wp2_with fail
      (with_reducible refine (morainelaw04_same.calls _ A2 c2 L A4 c4 L _ _ (Kd.R_reads' HA10.out).2.2 HLA.out (Kd.R_reads' HW10.out).2.2 HLW.out (same_self L HLL2.out)).mono ?_)
      rintro e w10 ⟨rfl, hd10⟩
      have hb := hd10.below
      have HW11 := Aside0.mk (Kd.R_below HW10.out hb)
      have HG11 := Aside0.mk (Kd.R_below HG10.out hb)
      have HA11 := Aside0.mk (Kd.R_below HA10.out hb)
      have HB11 := Aside0.mk (below_step HBX.out hb)
      clear hb hd10 HW10 HG10 HA10
      generalize hm : L.length = m at *
      have HM := Aside0.mk hm
      have HLM := HLL2.out
      have hinfo : (Try.prog.info? 65).map (·.size) = some 3 := by kernel_rfl
      have HINF := Aside0.mk hinfo
      clear hm hinfo
      have HAT := Aside0.mk (Kd.R_mono HA11.out (ok' := fun _ => True) (fun _ _ => trivial))
      go_wp2
      go_loopw [20] (fun v20 ws => ∃ (i : Nat) (ys : List Op04), v20 = .int .i64 (i : Int) ∧ i ≤ m ∧ Aside0 (ys.length = m) ∧ Aside0 (Kd.R k65 65 ws w1.heap.size (fun _ => True) (.slice A2 m c2) ys) ∧ Aside0 (Kept w10 ws (fun k_ => some k_ = (Value.slice A2 m c2).ownBlock)) ∧ Aside0 (Below w.heap.size w ws)) (fun v20 _ => m - (intOf v20).toNat)
      case atStart => exact ⟨0, L, rfl, by omega, HM, HAT, ⟨Kept.refl _ _⟩, HB11⟩
      case round =>
        obtain ⟨i, ys, rfl, him, HYL, HX, HK2, HBS⟩ := hrel
        by_cases hlt2 : i < m
        · have b2 : decide ((i : Int) < (m : Int)) = true := decide_eq_true (by omega)
          have hyl := HYL.out
          obtain ⟨g, cg, eg, gb, gl, cl, HGX⟩ := Kd.R_form HX.out (by omega)
          injection eg with ea en ec
          subst ea
          clear en ec
          obtain ⟨c, hcl, _, hcc, _⟩ := Kd.R_elem HX.out z65 (i : Int) (by omega) (by omega)
          have HCL := Aside0.mk hcl
          have HCC := Aside0.mk hcc
          have GB := Aside0.mk gb
          have ew : wrap64 ((i : Int) + 1) = ((i + 1 : Nat) : Int) := by unfold wrap64; omega
          have hyl2 : (ys.set i (⟨77, (⟨#[]⟩ : ByteArray), (⟨#[]⟩ : ByteArray)⟩ : Op04)).length = m := by rw [List.length_set]; exact hyl
          have HYL2 := Aside0.mk hyl2
          have HM3 := Aside0.mk (show Kd.M k65 wr w1.heap.size (fun _ => False) (⟨77, (⟨#[]⟩ : ByteArray), (⟨#[]⟩ : ByteArray)⟩ : Op04) (c.take 0 ++ [.int .i64 77, .string (⟨#[]⟩ : ByteArray), .string (⟨#[]⟩ : ByteArray)] ++ c.drop (0 + 3)) by
            rw [List.take_zero, List.drop_eq_nil_of_le (by rw [hcl]; exact Nat.le_refl _), List.nil_append, List.append_nil]
            exact k65_mkM _ _ _ ⟨77, ⟨#[]⟩, ⟨#[]⟩⟩)
          have HI3 := Aside0.mk (show i < m from hlt2)
          clear HGX gb gl hyl hyl2 hcl hcc
          go_wp2_with (first | ((with_reducible refine gate_store (t := 65) (p := 119) rfl ?_); refine Kd.R_store k65 (w0 := wr) w1.heap.size rfl rfl 65 (.tmp 119) (.tmp 118) rfl 65 (i : Int) 0 ys (⟨77, (⟨#[]⟩ : ByteArray), (⟨#[]⟩ : ByteArray)⟩ : Op04) (.agg #[.int .i64 77, .string (⟨#[]⟩ : ByteArray), .string (⟨#[]⟩ : ByteArray)]) [.int .i64 77, .string (⟨#[]⟩ : ByteArray), .string (⟨#[]⟩ : ByteArray)] c (fun _ => True) (fun _ => False) rfl ?so rfl rfl HINF.out ?s1 HX.out ?s0 ?si HCL.out HCC.out ?sj HM3.out (fun _ h => h.elim) (Below.refl _ _) ?_; (case so => first | rfl | (rw [Int.toNat_natCast]; rfl) | (show _ = (i : Int).toNat * 3 + 0; omega)); (case s1 => simp [Value.oneCell']); (case s0 => omega); (case si => have := HI3.out; omega); (case sj => exact Nat.le_refl _); intro w13 ho hb hg; have HX2 := Aside0.mk (show Kd.R k65 65 w13 w1.heap.size (fun _ => True) (.slice (some ⟨g, 0, none⟩) m c2) (ys.set i (⟨77, (⟨#[]⟩ : ByteArray), (⟨#[]⟩ : ByteArray)⟩ : Op04)) by rw [Int.toNat_natCast] at ho; exact ho); have HK13 := Aside0.mk (Kept.of_grown hg HK2.out (fun k_ e_ => .inl e_.symm)); have HB13 := Aside0.mk (HBS.out.grown hg HBS.out.size (fun k_ e_ => (Option.some.inj e_) ▸ Nat.le_trans HS1.out GB.out)); clear ho hb hg))
          go_roundw
          case rel => exact ⟨i + 1, _, by go_num, by omega, HYL2, HX2, HK13, HB13⟩
          case measure => simp only [intOf]; omega
        · have b2 : decide ((i : Int) < (m : Int)) = false := decide_eq_false (by omega)
          have HW12 := Aside0.mk (Kd.R_kept HW11.out HK2.out (fun k_ hk he => hk.1.2 he))
          have HG12 := Aside0.mk (Kd.R_kept HG11.out HK2.out (fun k_ hk he => hk.1.2 he))
          have HBY := Aside0.mk HBS.out
          clear HX HK2 HYL
          go_wp2_with fail
          (with_reducible refine (same_calls' A3 c3 L A4 c4 m HM.out _ (Kd.R_reads' HG12.out).2.2 HLG.out (Kd.R_reads' HW12.out).2.2 HLW.out HLM).mono ?_)
          rintro e w14 ⟨rfl, hd14⟩
          have HB14 := Aside0.mk (below_step HBY.out hd14.below)
          clear hd14
          go_wp2
          go_ret
          exact ⟨rfl, HB14.out⟩
theorem BatchDecodes_upto (w : World) (A0 : Option Addr) (c0 : Nat) (l0 : List Int) (hc0 : l0.length ≤ c0) (hr0 : Kd.C (Kd.int .u8) w A0 l0.length l0) (hg0 : ∀ x ∈ l0, (Lit.int .u8 x).wf = true) (hbulk : sumBulk (fun _ : Int => 1) l0 + 1 ≤ 1048576) :
    Calls Try.prog 6 #[.slice A0 l0.length c0] w fun e w' => e = .returned (.bool true) ∧ Below w.heap.size w w' := by
  have hb := bytes_of_wf hg0
  have hlb := sumBulk_len (fun _ : Int => 1) (fun _ => Nat.le_refl _) l0
  have hs := (decB_len l0 hb (by omega)).1
  exact BatchDecodes_calls A0 c0 l0 w hr0 hc0 hb (by omega) (decB l0).1 (decB l0).2.1 (decB l0).2.2 (by omega) rfl _ _ _ rfl

end Go.Proofs.Ythkooncibfkepaa.G
