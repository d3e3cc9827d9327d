/- Contracts of functions and plain laws, several texts of the session put together by its program. -/
import Derived.Test.YtmpkigambfghgaaDoorProg
import Derived.Below
import Derived.Deep.Draws
import Derived.Deep.AppendLies
import Derived.Maps.AppendAt
import Derived.OwnWalk
import Derived.Laws.BytesArg
import Derived.Laws.MakeOwn
import Derived.Laws.OwnMore
import Derived.Deep.OwnRows
import Derived.Tactics
import Derived.Lib.ConvBytes
import Derived.Laws.Slices
import Derived.WalkKit
import Derived.KernelRfl
import Derived.RowKit3
import Derived.Deep.LoopGhost
import Derived.Deep.QuietTactic
import Derived.BigQuiet
import Derived.WideLaws
import Derived.Deep.DeepCutAuto
import Derived.Deep.CutBlock
import Derived.Deep.RegionHeld3
import Derived.Laws.Rows
import Derived.Lib.AppendStr
import Derived.ArgAppend
import Derived.Laws.IdiomCopy
import Derived.OrdersHeld
import Derived.Laws.BitsLemmas
import Derived.RowKit
import Derived.Test.YtmpkigambfghgaaDoorWWords
import Derived.Test.YtmpkigambfghgaaDoorWLast
import Derived.Test.YtmpkigambfghgaaDoorWTab
import Derived.Test.YtmpkigambfghgaaDoorWFour
import Derived.Test.YtmpkigambfghgaaDoorWQPut
import Derived.Test.YtmpkigambfghgaaDoorWApart
import Derived.Test.YtmpkigambfghgaaDoorWArr
import Derived.Test.YtmpkigambfghgaaDoorWZeros
import Derived.Test.YtmpkigambfghgaaDoorWFoot
import Derived.Test.YtmpkigambfghgaaDoorWKept
import Derived.Test.YtmpkigambfghgaaDoorWShare
import Derived.Test.YtmpkigambfghgaaDoorWN
import Derived.Test.YtmpkigambfghgaaDoorWFootNe
import Derived.Test.YtmpkigambfghgaaDoorWAt
import Derived.Test.YtmpkigambfghgaaDoorWEqStruct
import Derived.Test.YtmpkigambfghgaaDoorWRepsOne
import Derived.Test.YtmpkigambfghgaaDoorWInv
import Derived.Test.YtmpkigambfghgaaDoorWInvWords
import Derived.Test.YtmpkigambfghgaaDoorWGuard
import Derived.Test.YtmpkigambfghgaaDoorWNEv
import Derived.Test.YtmpkigambfghgaaDoorWMore
import Derived.Test.YtmpkigambfghgaaDoorQ1

/- Contracts typed by hand: the law JournalCuts -/
namespace Go.Proofs.YtmpkigambfghgaaDoor.G
open Go.RowKit Go.Proofs.YtmpkigambfghgaaDoorW.PrintWords Go.Proofs.YtmpkigambfghgaaDoorW.PrintLast Go.Proofs.YtmpkigambfghgaaDoorW.PrintMore
attribute [local go_sem] max2_int min2_int max_two min_two max_three min_three max_four min_four
set_option linter.unusedVariables false
set_option linter.unusedSimpArgs false

/-! the law JournalCuts -/
theorem cut_val (x : Int) (FL : Nat) (h : FL ≤ 1099511627776) : ∃ cut : Nat, (wrap64 (x.tmod ((FL : Int) + 1) + ((FL : Int) + 1))).tmod ((FL : Int) + 1) = (cut : Int) ∧ cut ≤ FL := by
  have h1 := Int.tmod_lt_of_pos x (b := (FL : Int) + 1) (by omega)
  have h2 := Int.lt_tmod_of_pos x (b := (FL : Int) + 1) (by omega)
  generalize x.tmod ((FL : Int) + 1) = r at *
  rw [wr _ (by omega) (by omega), Int.tmod_eq_emod_of_nonneg (by omega)]
  have h3 := Int.emod_nonneg (r + ((FL : Int) + 1)) (show (FL : Int) + 1 ≠ 0 by omega)
  have h4 := Int.emod_lt_of_pos (r + ((FL : Int) + 1)) (show 0 < (FL : Int) + 1 by omega)
  exact ⟨((r + ((FL : Int) + 1)) % ((FL : Int) + 1)).toNat, by omega, by omega⟩
set_option maxHeartbeats 8000000 in
set_option maxRecDepth 100000 in
theorem cuts_calls (blk : Nat) (A0 : Option Addr) (c0 : Nat) (rs : List (List Int)) (hs : List (Option Addr × Nat × Nat)) (x2 : Int) (w : World) (h1 : 32 ≤ blk) (h2 : blk ≤ 32768) (hH : Heads w rs hs) (hC : hdK.C w A0 rs.length hs) (hc0 : rs.length ≤ c0) (hby : ∀ r ∈ rs, Byt r) (hbulk : bulk rs ≤ 1048576) (hT : TabAt w) :
    Calls Tryd.prog 8 #[.int .i64 (blk : Int), .slice A0 rs.length c0, .int .i64 x2] w fun e w' => e = .returned (.bool true) ∧ Below w.heap.size w w' := by
  have HH := Aside0.mk hH
  have HC := Aside0.mk hC
  have HC0 := Aside0.mk hc0
  have HBY := Aside0.mk hby
  have HT := Aside0.mk hT
  have HBK := Aside0.mk hbulk
  have HHL := Aside0.mk hH.1
  have hfl := fileOf_len blk h1 rs rs.length (Nat.le_refl _)
  rw [List.take_length] at hfl
  have HFL := Aside0.mk (show (fileOf blk rs).length ≤ 24117248 by omega)
  have HFB := Aside0.mk (fileOf_byt blk rs hby)
  have HV := Aside0.mk (morainelaw07_valid.calls (blk : Int) true w (by unfold morainelaw07_valid.f; rw [if_pos (by omega)]; simp; omega))
  clear hH hC hby hT hbulk hc0 hfl
  go_enter Tryd.func8, Tryd.ntmps8
  go_wp2_with fail
  (with_reducible refine HV.out.mono ?_)
  rintro e w1 ⟨rfl, hd⟩
  have HB1 := Aside0.mk hd.below
  clear hd
  go_wp2_with fail
  (with_reducible refine (written_calls blk A0 c0 rs hs _ h1 h2 (HH.out.below HB1.out) (Kd.C_below HC.out HB1.out) HC0.out HBY.out HBK.out (HT.out.below HB1.out)).mono ?_)
  rintro e w2 ⟨v0, v1, v2, rfl, hf, hE_, hk, hb⟩
  have HB2 := Aside0.mk (below_step HB1.out hb)
  have HF2 := Aside0.mk hf
  obtain ⟨AF, cF, rfl, hcF, hCF⟩ := Kd.R_reads hf
  obtain ⟨AE, cE, rfl, hcE, hCE⟩ := Kd.R_reads hE_
  obtain ⟨A2, c2, rfl, hc2, hC2⟩ := Kd.R_reads hk
  have HCF := Aside0.mk hCF
  have HCFc := Aside0.mk hcF
  have HCE := Aside0.mk hCE
  have HK2 := Aside0.mk hC2
  have hel : (endsOf blk rs).length = rs.length := by simp [endsOf]
  have hnl := bulk_len rs
  have hnl2 : rs.length ≤ 1048576 := Nat.le_trans hnl HBK.out
  rw [hel] at HCE hcE ⊢
  rw [HHL.out] at HK2 hc2 ⊢
  obtain ⟨n, hn⟩ : ∃ n, rs.length = n := ⟨_, rfl⟩
  have HN := Aside0.mk hn
  rw [hn] at hnl2 HK2 hc2 HCE hcE ⊢
  clear hf hE_ hk hb hC2 hCE hCF hn hnl hel hcF hcE
  have HINFO := Aside0.mk (show (Tryd.prog.info? 5).map (fun i => (i.zero, i.size, i.bytes)) = some (some (.int .u8 0), 1, 1) by kernel_rfl)
  obtain ⟨FL, hFL⟩ : ∃ FL, (fileOf blk rs).length = FL := ⟨_, rfl⟩
  have HFLE := Aside0.mk hFL
  have hFL2 : FL ≤ 24117248 := by have := HFL.out; omega
  rw [hFL] at HCF HCFc ⊢
  clear hFL
  obtain ⟨cut, hcutv, hcutle⟩ : ∃ cut : Nat, (wrap64 (x2.tmod ((FL : Int) + 1) + ((FL : Int) + 1))).tmod ((FL : Int) + 1) = (cut : Int) ∧ cut ≤ FL := cut_val x2 FL (by omega)
  obtain ⟨j, hj⟩ : ∃ j, wholes blk rs cut rs.length = j := ⟨_, rfl⟩
  obtain ⟨hj1, hj2, hj3⟩ := wholes_spec blk h1 rs cut rs.length (Nat.le_refl _) (Or.inl rfl)
  rw [hj] at hj1 hj2 hj3
  obtain ⟨hw, hw2, hw0, hrd⟩ := read_cuts blk h1 h2 rs HBK.out cut j (by rw [HFLE.out]; exact hcutle) hj1 hj2 hj3
  have HRD := Aside0.mk hrd
  have HWH := Aside0.mk hj
  have HW0 := Aside0.mk hw0
  have HTK := Aside0.mk (show ((fileOf blk rs).take cut).length = cut by rw [List.length_take, HFLE.out]; omega)
  have HCT := Aside0.mk (Kd.C_take (m := cut) (by rw [HFLE.out]; exact HCF.out : Kd.C (Kd.int .u8) w2 AF (fileOf blk rs).length (fileOf blk rs)) (by rw [HFLE.out]; exact hcutle))
  have HCTc := Aside0.mk (show ((fileOf blk rs).take cut).length ≤ cF by rw [HTK.out]; exact Nat.le_trans hcutle HCFc.out)
  obtain ⟨i0, hi0, _, hsz0, _⟩ := info_parts HINFO.out
  have hsl := cut_to (P := Tryd.prog) 22 5 .i64 Tryd.underlying22 hi0 AF FL cF (cut : Int) (by omega) (by omega) HCFc.out
  rw [Int.toNat_natCast] at hsl
  rw [HN.out] at hj1 hj3
  clear hj hj2 hj3 hw0 hrd hi0 hsz0 HINFO
  go_wp2_with fail
  rw [show #[Value.int .i64 (blk : Int), Value.slice AF cut cF] = #[Value.int .i64 (blk : Int), Value.slice AF ((fileOf blk rs).take cut).length cF] by rw [HTK.out]]
  (with_reducible refine (read_calls blk AF cF ((fileOf blk rs).take cut) _ _ hw h1 h2 HCT.out HCTc.out (HFB.out.take _) (by rw [HTK.out]; omega) (HT.out.below HB2.out) HRD.out).mono ?_)
  rintro e w3 ⟨v9, xs, rfl, hx, hv, hR, hb⟩
  have HB3 := Aside0.mk (below_step HB2.out hb)
  have HXL := Aside0.mk (outs_len hx)
  have HXD := Aside0.mk (fun i hi => outs_dat hx i hi)
  have hend := outs_end hx
  obtain ⟨LJ, hLJ⟩ : ∃ LJ, (fileOf blk (rs.take j)).length = LJ := ⟨_, rfl⟩
  have HLJ := Aside0.mk hLJ
  rw [hLJ] at hend HW0
  rw [hend]
  have HRC := Aside0.mk hR
  obtain ⟨A9, c9, rfl, hc9, hC9⟩ := Kd.R_reads hv
  have HX := Aside0.mk hC9
  have HK3 := Aside0.mk (Kd.C_below HK2.out hb)
  have HCE3 := Aside0.mk (Kd.C_below HCE.out hb)
  have HH3 := Aside0.mk (HH.out.below HB3.out)
  rw [List.length_map, HXL.out] at HX hc9 ⊢
  have HEND := Aside0.mk (fun k (hk : k < n) => show rd (endsOf blk rs) (k : Int) = ((fileOf blk (rs.take (k + 1))).length : Int) by rw [rd_at _ _ (by simp [endsOf]; rw [HN.out]; exact hk)]; simp [endsOf])
  have hwb2 : ((hw : Int) == 2) = false := by simp; omega
  have hwb : ((((hw : Int) == 1) = false) ∨ (((hw : Int) == 1) = true ∧ ((LJ : Int) == (cut : Int)) = false)) := by
    by_cases h7 : hw = 1
    · subst h7
      refine Or.inr ⟨rfl, ?_⟩
      by_cases h8 : LJ = cut
      · exact absurd (HW0.out h8) (by decide)
      · simp; omega
    · exact Or.inl (by simp; omega)
  have HWB := Aside0.mk hwb
  clear hx hv hR hb hC9 hend hLJ hwb hcutv hsl
  go_wp2_with fail
  go_loopw [16, 17, 18] (fun v16 v17 v18 wr => ∃ (k : Nat), v16 = .int .i64 ((wholes blk rs cut k : Nat) : Int) ∧ v17 = .int .i64 (((fileOf blk (rs.take (wholes blk rs cut k))).length : Nat) : Int) ∧ v18 = .int .i64 (k : Int) ∧ k ≤ n ∧ Aside0 (Below w3.heap.size w3 wr)) (fun _ _ v18 _ => n - (intOf v18).toNat)
  case atStart => exact ⟨0, rfl, rfl, rfl, by omega, ⟨Below.refl _ _⟩⟩
  case round =>
    obtain ⟨k, rfl, rfl, rfl, hkn, HB⟩ := hrel
    by_cases hlt : k < n
    · have b1 : decide ((k : Int) < (n : Int)) = true := decide_eq_true (by omega)
      obtain ⟨adE, eE, qE⟩ := Kd.at_int (Kd.C_below HCE3.out HB.out) (k : Int) (by omega) (by omega)
      cases eE
      rw [HEND.out k hlt, Int.toNat_natCast] at qE
      have hun : wholes blk rs cut (k + 1) = if (fileOf blk (rs.take (k + 1))).length ≤ cut then k + 1 else wholes blk rs cut k := rfl
      have HWK := Aside0.mk hun
      clear hun
      obtain ⟨WK, hWK⟩ : ∃ WK, wholes blk rs cut k = WK := ⟨_, rfl⟩
      obtain ⟨LE, hLE⟩ : ∃ LE, (fileOf blk (rs.take (k + 1))).length = LE := ⟨_, rfl⟩
      obtain ⟨LW, hLW⟩ : ∃ LW, (fileOf blk (rs.take (wholes blk rs cut k))).length = LW := ⟨_, rfl⟩
      rw [hLW, hWK]
      rw [hLE] at qE
      have HWK0 := Aside0.mk hWK
      have HLE0 := Aside0.mk hLE
      have HLW0 := Aside0.mk hLW
      have hk1 : 0 ≤ (k : Int) := by omega
      clear hWK hLE hLW
      by_cases hle : LE ≤ cut
      · have b2 : decide ((LE : Int) ≤ (cut : Int)) = true := decide_eq_true (by omega)
        have b3 : decide (LE ≤ cut) = true := decide_eq_true hle
        go_wp2
        go_quiet (fail)
        all_goals go_wp2
        go_roundw
        case rel => exact ⟨k + 1, by rw [HWK.out, if_pos (by rw [HLE0.out]; exact hle)]; go_num, by rw [HWK.out, if_pos (by rw [HLE0.out]; exact hle), HLE0.out], by go_num, by omega, ⟨pw_below_drewN HB.out _⟩⟩
        case measure => simp only [intOf]; omega
      · have b2 : decide ((LE : Int) ≤ (cut : Int)) = false := decide_eq_false (by omega)
        have b3 : decide (LE ≤ cut) = false := decide_eq_false hle
        go_wp2
        go_roundw
        case rel => exact ⟨k + 1, by rw [HWK.out, if_neg (by rw [HLE0.out]; exact hle), HWK0.out], by rw [HWK.out, if_neg (by rw [HLE0.out]; exact hle), HLW0.out], by go_num, by omega, HB⟩
        case measure => simp only [intOf]; omega
    · obtain rfl : n = k := by omega
      have b1 : decide ((n : Int) < (n : Int)) = false := decide_eq_false (by omega)
      have HBL := HB
      have hwj : wholes blk rs cut n = j := by rw [← HN.out]; exact HWH.out
      rw [hwj, HLJ.out]
      have b4 : ((LJ : Int) != (LJ : Int)) = false := by simp
      have b5 : ((j : Int) != (j : Int)) = false := by simp
      clear hwj hkn hlt
      rcases HWB.out with b6 | ⟨b6, b7⟩
      all_goals
        go_wp2
        go_loopw [19] (fun v19 wr => ∃ (k : Nat), v19 = .int .i64 (k : Int) ∧ k ≤ j ∧ Aside0 (Below w3.heap.size w3 wr)) (fun v19 _ => j - (intOf v19).toNat)
        case atStart => exact ⟨0, rfl, by omega, HBL⟩
        case round =>
          obtain ⟨k, rfl, hkn, HB⟩ := hrel
          by_cases hlt : k < j
          · have b1 : decide ((k : Int) < (j : Int)) = true := decide_eq_true (by omega)
            have hkx : k < xs.length := by rw [HXL.out]; exact hlt
            have hkr : k < rs.length := by rw [HN.out]; omega
            obtain ⟨ad9, e9, q9⟩ := hd_at (Kd.C_below HX.out HB.out) k hlt
            obtain ⟨ad7, e7, q7⟩ := hd_at (Kd.C_below HK3.out HB.out) k (by omega)
            cases e9
            cases e7
            have hcv1 := fun (j : Nat) => rec_text HRC.out (W := wr.drewN j) (pw_below_drewN HB.out _) k hkx
            have hcv2 := fun (j : Nat) => head_text HH3.out (W := wr.drewN j) (pw_below_drewN HB.out _) k hkr
            have hcv1' := rec_text HRC.out (W := wr) HB.out k hkx
            have hcv2' := head_text HH3.out (W := wr) HB.out k hkr
            rw [HXD.out k hlt] at hcv1 hcv1'
            obtain ⟨y1, hy1⟩ : ∃ y, hdr (xs.map hdY) k = y := ⟨_, rfl⟩
            obtain ⟨y2, hy2⟩ : ∃ y, hdr hs k = y := ⟨_, rfl⟩
            rw [hy1] at q9 hcv1 hcv1'
            rw [hy2] at q7 hcv2 hcv2'
            obtain ⟨y1a, y1n, y1c⟩ := y1
            obtain ⟨y2a, y2n, y2c⟩ := y2
            generalize strOfNums (rec rs k) = T at *
            dsimp only at *
            clear hy1 hy2
            go_wp2
            go_quiet (fail)
            all_goals go_wp2
            go_roundw
            case rel => exact ⟨k + 1, by go_num, by omega, ⟨pw_below_drewN HB.out _⟩⟩
            case measure => simp only [intOf]; omega
          · obtain rfl : k = j := by omega
            have b1 : decide ((k : Int) < (k : Int)) = false := decide_eq_false (by omega)
            go_wp2
            go_ret
            exact ⟨by simp, below_step HB3.out HB.out⟩

theorem JournalCuts_upto (w : World) (x0 : Int) (hg0 : (Lit.int .i64 x0).wf = true) (A1 : Option Addr) (c1 : Nat) (l1 : List (List Int)) (hc1 : l1.length ≤ c1) (hr1 : Kd.C (Kd.slice 5 (Kd.int .u8)) w A1 l1.length l1) (hg1 : ∀ x ∈ l1, ∀ y ∈ x, (Lit.int .u8 y).wf = true) (x2 : Int) (hg2 : (Lit.int .i64 x2).wf = true)
    (hbulk : sumBulk (fun l : List Int => sumBulk (fun _ : Int => 1) l + 1) l1 + 1 ≤ 1048576) (hTab : TabAt w) :
    Calls Tryd.prog 8 #[.int .i64 x0, .slice A1 l1.length c1, .int .i64 x2] w fun e w' => e = .returned (.bool true) ∧ Below w.heap.size w w' := by
  by_cases hv : 32 ≤ x0 ∧ x0 ≤ 32768
  · obtain ⟨blk, rfl⟩ := Int.eq_ofNat_of_zero_le (show 0 ≤ x0 by omega)
    obtain ⟨hs, hH, hC⟩ := heads_of hr1
    exact cuts_calls blk A1 c1 l1 hs x2 w (by omega) (by omega) hH hC hc1 (byt_recs hg1) (by rw [bulk_of]; omega) hTab
  · have HV := Aside0.mk (morainelaw07_valid.calls x0 false w (by unfold morainelaw07_valid.f; split <;> simp <;> omega))
    clear hr1 hTab hbulk hg1 hg0 hg2
    go_enter Tryd.func8, Tryd.ntmps8
    go_wp2_with fail
    (with_reducible refine HV.out.mono ?_)
    rintro e w1 ⟨rfl, hd⟩
    have HB1 := Aside0.mk hd.below
    clear hd
    go_wp2
    go_ret
    exact ⟨rfl, HB1.out⟩

end Go.Proofs.YtmpkigambfghgaaDoor.G
