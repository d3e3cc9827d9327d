/- Contracts typed by hand: the law CodecPuts: its walk and its plain law -/
import Derived.Test.YtlfikdpcfoflfaaProg
import Derived.Below
import Derived.Deep.Draws
import Derived.Deep.AppendLies
import Derived.Maps.AppendAt
import Derived.OwnWalk
import Derived.Laws.BytesArg
import Derived.Laws.MakeOwn
import Derived.Laws.OwnMore
import Derived.Deep.OwnRows
import Derived.Tactics
import Derived.Lib.ConvBytes
import Derived.Laws.Slices
import Derived.WalkKit
import Derived.KernelRfl
import Derived.RowKit3
import Derived.Deep.LoopGhost
import Derived.Deep.QuietTactic
import Derived.BigQuiet
import Derived.WideLaws
import Derived.Deep.DeepCutAuto
import Derived.Deep.CutBlock
import Derived.Deep.RegionHeld3
import Derived.Laws.Rows
import Derived.Lib.AppendStr
import Derived.ArgAppend
import Derived.Laws.IdiomCopy
import Derived.OrdersHeld
import Derived.Laws.BitsLemmas
import Derived.RowKit
import Derived.Test.YtlfikdpcfoflfaaWWords
import Derived.Test.YtlfikdpcfoflfaaWLast
import Derived.Test.YtlfikdpcfoflfaaWTab
import Derived.Test.YtlfikdpcfoflfaaWFour
import Derived.Test.YtlfikdpcfoflfaaWQPut
import Derived.Test.YtlfikdpcfoflfaaWApart
import Derived.Test.YtlfikdpcfoflfaaWArr
import Derived.Test.YtlfikdpcfoflfaaWZeros
import Derived.Test.YtlfikdpcfoflfaaWFoot
import Derived.Test.YtlfikdpcfoflfaaWKept
import Derived.Test.YtlfikdpcfoflfaaWShare
import Derived.Test.YtlfikdpcfoflfaaWN
import Derived.Test.YtlfikdpcfoflfaaWFootNe
import Derived.Test.YtlfikdpcfoflfaaWAt
import Derived.Test.YtlfikdpcfoflfaaWEqStruct
import Derived.Test.YtlfikdpcfoflfaaWRepsOne
import Derived.Test.YtlfikdpcfoflfaaWInv
import Derived.Test.YtlfikdpcfoflfaaWInvWords
import Derived.Test.YtlfikdpcfoflfaaWGuard
import Derived.Test.YtlfikdpcfoflfaaWNEv
import Derived.Test.YtlfikdpcfoflfaaWMore
import Derived.Test.YtlfikdpcfoflfaaLawBack
import Derived.Test.YtlfikdpcfoflfaaManLent01
import Derived.Test.YtlfikdpcfoflfaaGx13
import Derived.Test.YtlfikdpcfoflfaaGx11
import Derived.Test.YtlfikdpcfoflfaaGx16
import Derived.Test.YtlfikdpcfoflfaaGx17
import Derived.Test.YtlfikdpcfoflfaaGx18
import Derived.Test.YtlfikdpcfoflfaaGx20
import Derived.Test.YtlfikdpcfoflfaaGx22
import Derived.Test.YtlfikdpcfoflfaaGx23
import Derived.Test.YtlfikdpcfoflfaaGx21
import Derived.Test.YtlfikdpcfoflfaaGx2
namespace Go.Proofs.Ytlfikdpcfoflfaa.G
open Go.RowKit Go.Proofs.YtlfikdpcfoflfaaW.PrintWords Go.Proofs.YtlfikdpcfoflfaaW.PrintLast Go.Proofs.YtlfikdpcfoflfaaW.PrintMore
attribute [local go_sem] max2_int min2_int max_two min_two max_three min_three max_four min_four
set_option linter.unusedVariables false
set_option linter.unusedSimpArgs false

/-! the law CodecPuts: its walk and its plain law -/
theorem refvarint_eq : ∀ (f k : Nat) (x0 : List Int) (v : Int), Small f v → v < 18446744073709551616 → f + 1 ≤ k → x0.length + f + 1 < 140737488355328 → moraineref01_Varint.l0 k v x0 = some (x0 ++ encF f v) := by
  intro f
  induction f with
  | zero =>
    intro k x0 v h hv hk hl
    obtain ⟨k, rfl⟩ : ∃ m, k = m + 1 := ⟨k - 1, by omega⟩
    have hs := small_zero h
    simp only [moraineref01_Varint.l0]
    rw [if_neg (show ¬ v ≥ 128 by omega), if_pos (by omega)]
    rfl
  | succ f ih =>
    intro k x0 v h hv hk hl
    obtain ⟨k, rfl⟩ : ∃ m, k = m + 1 := ⟨k - 1, by omega⟩
    have h0 := h.1
    simp only [moraineref01_Varint.l0, encF]
    by_cases hb : v ≥ 128
    · have e1 : IntKind.u64.wrap (Int.tdiv v 128) = v / 128 := by rw [Int.tdiv_eq_ediv_of_nonneg h0, Go.IntKind.wrap_u64]; omega
      have e2 : ((Int.tmod v 128) + 128) % 256 = v % 128 + 128 := by rw [Int.tmod_eq_emod_of_nonneg h0]; omega
      rw [if_pos hb, if_pos (by omega), if_pos (show 128 ≤ v from hb), e1, e2, ih k _ _ (small_div h) (by omega) (by omega) (by simp; omega)]
      simp
    · rw [if_neg hb, if_pos (by omega), if_neg (show ¬ 128 ≤ v from hb)]
theorem RefVarint_eq (k : Nat) (v : Int) (h0 : 0 ≤ v) (h1 : v < 18446744073709551616) (hk : 10 ≤ k) : moraineref01_Varint.f k v = some (enc v) := by
  unfold moraineref01_Varint.f
  have := refvarint_eq 9 k [] v (small9 v h0 h1) h1 (by omega) (by simp)
  rw [List.nil_append] at this
  exact this
theorem reffixed_put : ∀ (d k : Nat) (x0 : List Int) (v : Int) (n i : Nat), i + d = n → n ≤ 100 → d + 1 ≤ k → 0 ≤ v → v < 18446744073709551616 → x0.length + d < 140737488355328 → moraineref01_Fixed.l0 k v n x0 i = some (x0 ++ fixF d v) := by
  intro d
  induction d with
  | zero =>
    intro k x0 v n i hi hn hk h0 h1 hl
    obtain ⟨k, rfl⟩ : ∃ m, k = m + 1 := ⟨k - 1, by omega⟩
    simp only [moraineref01_Fixed.l0]
    rw [if_neg (by omega)]
    simp [fixF]
  | succ d ih =>
    intro k x0 v n i hi hn hk h0 h1 hl
    obtain ⟨k, rfl⟩ : ∃ m, k = m + 1 := ⟨k - 1, by omega⟩
    have w : wrap64 ((i : Int) + 1) = ((i + 1 : Nat) : Int) := by unfold wrap64; omega
    have e1 : IntKind.u64.wrap (Int.tdiv v 256) = v / 256 := by rw [Int.tdiv_eq_ediv_of_nonneg h0, Go.IntKind.wrap_u64]; omega
    simp only [moraineref01_Fixed.l0, w, e1]
    rw [if_pos (by omega), if_pos (by omega), ih k _ _ n (i + 1) (by omega) hn (by omega) (by omega) (by omega) (by simp; omega)]
    simp [fixF]
theorem RefFixed_eq (k : Nat) (v : Int) (n : Nat) (hn : n ≤ 100) (hk : n + 1 ≤ k) (h0 : 0 ≤ v) (h1 : v < 18446744073709551616) : moraineref01_Fixed.f k v n = some (fixF n v) := by
  unfold moraineref01_Fixed.f
  have := reffixed_put n k [] v n 0 (by omega) hn hk h0 h1 (by simp; omega)
  rw [List.nil_append] at this
  exact this
theorem RefText_eq (k : Nat) (s : ByteArray) (hk : 10 ≤ k) (hs : s.size ≤ 1048576) : moraineref01_Text.f k s = some (encText s) := by
  have w : IntKind.u64.wrap (s.size : Int) = (s.size : Int) := by rw [Go.IntKind.wrap_u64]; omega
  have hn := enc_len (s.size : Int)
  have e := RefVarint_eq k (s.size : Int) (by omega) (by omega) hk
  have h3 : (enc (s.size : Int)).length + s.size < 140737488355328 := by omega
  have e4 : encText s = enc (s.size : Int) ++ bytesOf s := rfl
  rw [e4]
  generalize enc (s.size : Int) = q at *
  unfold moraineref01_Text.f
  rw [w, e, Option.bind_some, if_pos h3]
theorem fix4_mod (v : Int) : fixF 4 (v % 4294967296) = fixF 4 v := by
  simp only [fixF]
  congr 1
  · omega
  · congr 1
    · omega
    · congr 1
      · omega
      · congr 1
        omega
/-- joined tells that an answer is what stood ahead and then what is put -/
theorem joined_loop (l : List Int) (b : Bool) (hl : l.length ≤ 100000000) : ∀ (d k : Nat) (x : List Int) (i : Nat), x.length = l.length → i + d = l.length → d + 1 ≤ k → ∃ r, morainelaw01_joined.l0 k x b i = some (b, r) := by
  intro d
  induction d with
  | zero =>
    intro k x i hx hi hk
    obtain ⟨k, rfl⟩ : ∃ m, k = m + 1 := ⟨k - 1, by omega⟩
    simp only [morainelaw01_joined.l0]
    rw [if_neg (by omega)]
    exact ⟨_, rfl⟩
  | succ d ih =>
    intro k x i hx hi hk
    obtain ⟨k, rfl⟩ : ∃ m, k = m + 1 := ⟨k - 1, by omega⟩
    have w : wrap64 ((i : Int) + 1) = ((i + 1 : Nat) : Int) := by unfold wrap64; omega
    simp only [morainelaw01_joined.l0, w]
    rw [if_pos (by omega), if_pos (by omega)]
    exact ih k _ (i + 1) (by rw [List.length_set]; exact hx) (by omega) (by omega)
theorem strOfNums_append (a b : List Int) : (strOfNums (a ++ b)).toList = (strOfNums a ++ strOfNums b).toList := by
  have h : strOfNums (a ++ b) = strOfNums a ++ strOfNums b := by
    unfold strOfNums
    apply ByteArray.ext
    simp
  rw [h]
theorem joined_eq (k : Nat) (a b : List Int) (ha : a.length ≤ 10000000) (hb : b.length ≤ 10000000) (hk : a.length + b.length + 1 ≤ k) : ∃ r, morainelaw01_joined.f k (a ++ b) a b = some (true, r) := by
  unfold morainelaw01_joined.f
  rw [if_pos (by rw [strOfNums_size, strOfNums_size]; omega), strOfNums_append, beq_self_eq_true]
  obtain ⟨r, hr⟩ := joined_loop (a ++ b) true (by simp; omega) (a ++ b).length k (a ++ b) 0 rfl (by omega) (by simp; omega)
  exact ⟨r, hr⟩
theorem R_int_ok {k : IntKind} {e : Nat} {w : World} {base : Nat} {ok : Nat → Prop} {v : Value} {xs : List Int} (h : Kd.R (Kd.int k) e w base ok v xs) : Kd.R (Kd.int k) e w base (fun j => v.ownBlock = some j) v xs := ⟨fun j hj => hj, h.2⟩
theorem R_range {k : IntKind} {e : Nat} {w : World} {base : Nat} {ok : Nat → Prop} {v : Value} {xs : List Int} (h : Kd.R (Kd.int k) e w base ok v xs) (j : Nat) (hj : v.ownBlock = some j) : base ≤ j ∧ j < w.heap.size := by
  obtain ⟨inner, ho⟩ := Kd.R_own h
  exact ⟨own_base ho j hj, own_lt ho j hj⟩
theorem joined_step (k : Nat) (W0 Wx Wy Wp : World) (vx : Value) (lx : List Int) (A0 : Option Addr) (c0 : Nat) (l0 : List Int) (Ap : Option Addr) (cp : Nat) (lp : List Int) (HBx : Below W0.heap.size W0 Wx) (HBy : Below Wx.heap.size Wx Wy) (HBp : Below Wy.heap.size Wy Wp)
    (hox : Kd.R (Kd.int .u8) 5 Wx W0.heap.size (fun _ => True) vx lx) (hC0 : Kd.C (Kd.int .u8) W0 A0 l0.length l0) (hc0 : l0.length ≤ c0) (hop : Kd.R (Kd.int .u8) 5 Wp Wy.heap.size (fun _ => True) (.slice Ap lp.length cp) lp) (h : ∃ r, morainelaw01_joined.f k lx l0 lp = some (true, r)) :
    Calls Try.prog 19 #[vx, .slice A0 l0.length c0, .slice Ap lp.length cp] Wp fun e W' => e = .returned (.bool true) ∧ Below W0.heap.size W0 W' ∧ Kept Wp W' (fun j => vx.ownBlock = some j) := by
  obtain ⟨r, h⟩ := h
  have B0y := below_step HBx HBy
  have B0p := below_step B0y HBp
  have Bxp := below_step HBy HBp
  refine (morainelaw01_joined.calls k (fun j => vx.ownBlock = some j) vx lx A0 c0 l0 Ap cp lp true r W0 Wp B0p (R_int_ok (Kd.R_below hox Bxp)) ?_ hc0 ?_ (Kd.R_reads' hop).2.1 h).mono ?_
  · exact Kd.C_kept_came (Kd.heap_int _) hC0 B0p (fun j hj => (R_range hox j hj).1)
  · exact Kd.C_kept_own (Kd.R_bound hop) (fun j hj hx => by have := (R_range hox j hx).2; have := hj.2.1; have := HBy.size; omega)
  · rintro e W' ⟨rfl, _, hb, hk⟩
    exact ⟨rfl, hb, hk⟩
theorem joined_step2 (k : Nat) (W0 Wx Wy Wp Wj Wq : World) (vx : Value) (lx : List Int) (vy : Value) (ly : List Int) (A0 : Option Addr) (c0 : Nat) (l0 : List Int) (Ap : Option Addr) (cp : Nat) (lp : List Int) (HBx : Below W0.heap.size W0 Wx) (HBy : Below Wx.heap.size Wx Wy) (HBp : Below Wy.heap.size Wy Wp)
    (HJ : Below W0.heap.size W0 Wj) (HK : Kept Wp Wj (fun j => vx.ownBlock = some j)) (HBq : Below Wj.heap.size Wj Wq)
    (hox : Kd.R (Kd.int .u8) 5 Wx W0.heap.size (fun _ => True) vx lx) (hoy : Kd.R (Kd.int .u8) 5 Wy Wx.heap.size (fun _ => True) vy ly) (hC0 : Kd.C (Kd.int .u8) W0 A0 l0.length l0) (hc0 : l0.length ≤ c0) (hop : Kd.R (Kd.int .u8) 5 Wq Wj.heap.size (fun _ => True) (.slice Ap lp.length cp) lp) (h : ∃ r, morainelaw01_joined.f k ly l0 lp = some (true, r)) :
    Calls Try.prog 19 #[vy, .slice A0 l0.length c0, .slice Ap lp.length cp] Wq fun e W' => e = .returned (.bool true) ∧ Below W0.heap.size W0 W' := by
  obtain ⟨r, h⟩ := h
  have B0q : Below W0.heap.size W0 Wq := below_then HJ HJ.size HBq
  have K1 : Kept Wy Wq (fun j => vx.ownBlock = some j) := ((Kept.of_below HBp (fun j => vx.ownBlock = some j)).then_ HK (fun j hj => .inl hj)).below HBq
  have hy := Kd.R_kept (Kd.R_bound hoy) K1 (fun j hj hx => by have := (R_range hox j hx).2; have := hj.2.1; omega)
  have s1 := HBx.size
  refine (morainelaw01_joined.calls k (fun j => vy.ownBlock = some j) vy ly A0 c0 l0 Ap cp lp true r W0 Wq B0q (R_int_ok (Kd.R_lower hy s1)) ?_ hc0 ?_ (Kd.R_reads' hop).2.1 h).mono ?_
  · exact Kd.C_kept_came (Kd.heap_int _) hC0 B0q (fun j hj => by have := (R_range hoy j hj).1; omega)
  · exact Kd.C_kept_own (Kd.R_bound hop) (fun j hj hx => by have := (R_range hoy j hx).2; have := hj.2.1; have := HBp.size; have := HK.1; omega)
  · rintro e W' ⟨rfl, _, hb, hk⟩
    exact ⟨rfl, hb⟩
set_option maxHeartbeats 8000000 in
set_option maxRecDepth 100000 in
theorem CodecPuts_calls (k : Nat) (A0 : Option Addr) (c0 : Nat) (l0 : List Int) (v : Int) (s : ByteArray) (w : World) (hr0 : Kd.C (Kd.int .u8) w A0 l0.length l0) (hc0 : l0.length ≤ c0) (hl : l0.length ≤ 140737488355000)
    (pv p8 p4 pt : List Int) (hS : codec_Size.f k v = some (pv.length : Int)) (hV : moraineref01_Varint.f k v = some pv) (h8 : moraineref01_Fixed.f k v 8 = some p8) (h4 : moraineref01_Fixed.f k v 4 = some p4) (hT : moraineref01_Text.f k s = some pt)
    (g1 : codec_PutVarint.f k l0 v = some (l0 ++ pv)) (g2 : codec_PutFixed64.f k l0 v = some (l0 ++ p8)) (g3 : codec_PutFixed32.f k l0 (v % 4294967296) = some (l0 ++ p4)) (g4 : codec_PutText.f k l0 s = some (l0 ++ pt))
    (j1 : ∃ r, morainelaw01_joined.f k (l0 ++ pv) l0 pv = some (true, r)) (j2 : ∃ r, morainelaw01_joined.f k (l0 ++ p8) l0 p8 = some (true, r)) (j3 : ∃ r, morainelaw01_joined.f k (l0 ++ p4) l0 p4 = some (true, r)) (j4 : ∃ r, morainelaw01_joined.f k (l0 ++ pt) l0 pt = some (true, r)) :
    Calls Try.prog 5 #[.slice A0 l0.length c0, .int .u64 v, .string s] w fun e w' => e = .returned (.bool true) ∧ Below w.heap.size w w' := by
  have HR0_ := Aside0.mk hr0
  have HC0_ := Aside0.mk hc0
  have HL_ := Aside0.mk hl
  have HS_ := Aside0.mk hS
  have HV_ := Aside0.mk hV
  have H8_ := Aside0.mk h8
  have H4_ := Aside0.mk h4
  have HT_ := Aside0.mk hT
  have G1_ := Aside0.mk g1
  have G2_ := Aside0.mk g2
  have G3_ := Aside0.mk g3
  have G4_ := Aside0.mk g4
  have J1_ := Aside0.mk j1
  have J2_ := Aside0.mk j2
  have J3_ := Aside0.mk j3
  have J4_ := Aside0.mk j4
  have HN_ := Aside0.mk (show morainelaw01_names.f = some true from rfl)
  clear hr0 hc0 hl hS hV h8 h4 hT g1 g2 g3 g4 j1 j2 j3 j4
  go_enter Try.func5, Try.ntmps5
  go_wp2_with fail
  (with_reducible refine (morainelaw01_lent.calls _ _ l0 _ HR0_.out HC0_.out HL_.out).mono ?_)
  rintro e W1 ⟨Ai, ci, rfl, ho, hb⟩
  have BW1 := Aside0.mk hb
  have HIN := Aside0.mk (Kd.R_reads' ho)
  have HP1 := Aside0.mk (C_prefix (ys := [90]) (by simpa using (Kd.R_reads' ho).2.2))
  have HPC := Aside0.mk (show l0.length ≤ ci by have := HIN.out.2.1; omega)
  have BI1 := Aside0.mk (Below.refl W1.heap.size W1)
  clear ho hb
  go_wp2_with fail
  (with_reducible refine (morainelaw01_names.calls true _ HN_.out).mono ?_)
  rintro e W2 ⟨rfl, hd⟩
  have BW2 := Aside0.mk (below_step BW1.out hd.below)
  have BI2 := Aside0.mk (below_step BI1.out hd.below)
  clear hd
  go_wp2_with fail
  (with_reducible refine (codec_Size.calls k v _ _ HS_.out).mono ?_)
  rintro e W3 ⟨rfl, hd⟩
  have BW3 := Aside0.mk (below_step BW2.out hd.below)
  have BI3 := Aside0.mk (below_step BI2.out hd.below)
  clear hd
  go_wp2_with fail
  (with_reducible refine (moraineref01_Varint.calls k v pv _ HV_.out).mono ?_)
  rintro e W4 ⟨vv, rfl, ho, hb⟩
  have BW4 := Aside0.mk (below_step BW3.out hb)
  have BI4 := Aside0.mk (below_step BI3.out hb)
  obtain ⟨Av, cv, rfl⟩ := Kd.R_slice ho
  clear ho hb
  go_wp2_with fail
  (with_reducible refine (codec_PutVarint.calls k _ _ l0 v (l0 ++ pv) _ (Kd.C_below HP1.out BI4.out) HPC.out G1_.out).mono ?_)
  rintro e Wxpv ⟨vxpv, rfl, ho, hb⟩
  have OXpv := Aside0.mk ho
  have BXpv := Aside0.mk hb
  clear ho hb
  go_wp2_with fail
  (with_reducible refine (codec_PutVarint.calls k _ _ l0 v (l0 ++ pv) _ (Kd.C_below (Kd.C_below HP1.out BI4.out) BXpv.out) HPC.out G1_.out).mono ?_)
  rintro e Wypv ⟨vypv, rfl, ho, hb⟩
  have OYpv := Aside0.mk ho
  have BYpv := Aside0.mk hb
  clear ho hb
  go_wp2_with fail
  (with_reducible refine (moraineref01_Varint.calls k v pv _ HV_.out).mono ?_)
  rintro e Wppv ⟨vppv, rfl, ho, hb⟩
  obtain ⟨Appv, cppv, rfl⟩ := Kd.R_slice ho
  have OPpv := Aside0.mk ho
  have BPpv := Aside0.mk hb
  clear ho hb
  go_wp2_with fail
  (with_reducible refine (joined_step k W4 Wxpv Wypv Wppv vxpv _ A0 c0 l0 Appv cppv pv BXpv.out BYpv.out BPpv.out OXpv.out (Kd.C_below HR0_.out BW4.out) HC0_.out OPpv.out J1_.out).mono ?_)
  rintro e Wjpv ⟨rfl, hb, hk⟩
  have BJpv := Aside0.mk hb
  have KJpv := Aside0.mk hk
  clear hb hk
  go_wp2_with fail
  (with_reducible refine (moraineref01_Varint.calls k v pv _ HV_.out).mono ?_)
  rintro e Wqpv ⟨vqpv, rfl, ho, hb⟩
  obtain ⟨Aqpv, cqpv, rfl⟩ := Kd.R_slice ho
  have OQpv := Aside0.mk ho
  have BQpv := Aside0.mk hb
  clear ho hb
  go_wp2_with fail
  (with_reducible refine (joined_step2 k W4 Wxpv Wypv Wppv Wjpv Wqpv vxpv _ vypv _ A0 c0 l0 Aqpv cqpv pv BXpv.out BYpv.out BPpv.out BJpv.out KJpv.out BQpv.out OXpv.out OYpv.out (Kd.C_below HR0_.out BW4.out) HC0_.out OQpv.out J1_.out).mono ?_)
  rintro e W5 ⟨rfl, hb⟩
  have BW5 := Aside0.mk (below_step BW4.out hb)
  have BI5 := Aside0.mk (below_step BI4.out hb)
  clear hb OXpv OYpv OPpv OQpv BXpv BYpv BPpv BJpv KJpv BQpv
  go_wp2_with fail
  (with_reducible refine (codec_PutFixed64.calls k _ _ l0 v (l0 ++ p8) _ (Kd.C_below HP1.out BI5.out) HPC.out G2_.out).mono ?_)
  rintro e Wxp8 ⟨vxp8, rfl, ho, hb⟩
  have OXp8 := Aside0.mk ho
  have BXp8 := Aside0.mk hb
  clear ho hb
  go_wp2_with fail
  (with_reducible refine (codec_PutFixed64.calls k _ _ l0 v (l0 ++ p8) _ (Kd.C_below (Kd.C_below HP1.out BI5.out) BXp8.out) HPC.out G2_.out).mono ?_)
  rintro e Wyp8 ⟨vyp8, rfl, ho, hb⟩
  have OYp8 := Aside0.mk ho
  have BYp8 := Aside0.mk hb
  clear ho hb
  go_wp2_with fail
  (with_reducible refine (moraineref01_Fixed.calls k v 8 p8 _ H8_.out).mono ?_)
  rintro e Wpp8 ⟨vpp8, rfl, ho, hb⟩
  obtain ⟨App8, cpp8, rfl⟩ := Kd.R_slice ho
  have OPp8 := Aside0.mk ho
  have BPp8 := Aside0.mk hb
  clear ho hb
  go_wp2_with fail
  (with_reducible refine (joined_step k W5 Wxp8 Wyp8 Wpp8 vxp8 _ A0 c0 l0 App8 cpp8 p8 BXp8.out BYp8.out BPp8.out OXp8.out (Kd.C_below HR0_.out BW5.out) HC0_.out OPp8.out J2_.out).mono ?_)
  rintro e Wjp8 ⟨rfl, hb, hk⟩
  have BJp8 := Aside0.mk hb
  have KJp8 := Aside0.mk hk
  clear hb hk
  go_wp2_with fail
  (with_reducible refine (moraineref01_Fixed.calls k v 8 p8 _ H8_.out).mono ?_)
  rintro e Wqp8 ⟨vqp8, rfl, ho, hb⟩
  obtain ⟨Aqp8, cqp8, rfl⟩ := Kd.R_slice ho
  have OQp8 := Aside0.mk ho
  have BQp8 := Aside0.mk hb
  clear ho hb
  go_wp2_with fail
  (with_reducible refine (joined_step2 k W5 Wxp8 Wyp8 Wpp8 Wjp8 Wqp8 vxp8 _ vyp8 _ A0 c0 l0 Aqp8 cqp8 p8 BXp8.out BYp8.out BPp8.out BJp8.out KJp8.out BQp8.out OXp8.out OYp8.out (Kd.C_below HR0_.out BW5.out) HC0_.out OQp8.out J2_.out).mono ?_)
  rintro e W6 ⟨rfl, hb⟩
  have BW6 := Aside0.mk (below_step BW5.out hb)
  have BI6 := Aside0.mk (below_step BI5.out hb)
  clear hb OXp8 OYp8 OPp8 OQp8 BXp8 BYp8 BPp8 BJp8 KJp8 BQp8
  go_wp2_with fail
  (with_reducible refine (codec_PutFixed32.calls k _ _ l0 (v % 4294967296) (l0 ++ p4) _ (Kd.C_below HP1.out BI6.out) HPC.out G3_.out).mono ?_)
  rintro e Wxp4 ⟨vxp4, rfl, ho, hb⟩
  have OXp4 := Aside0.mk ho
  have BXp4 := Aside0.mk hb
  clear ho hb
  go_wp2_with fail
  (with_reducible refine (codec_PutFixed32.calls k _ _ l0 (v % 4294967296) (l0 ++ p4) _ (Kd.C_below (Kd.C_below HP1.out BI6.out) BXp4.out) HPC.out G3_.out).mono ?_)
  rintro e Wyp4 ⟨vyp4, rfl, ho, hb⟩
  have OYp4 := Aside0.mk ho
  have BYp4 := Aside0.mk hb
  clear ho hb
  go_wp2_with fail
  (with_reducible refine (moraineref01_Fixed.calls k v 4 p4 _ H4_.out).mono ?_)
  rintro e Wpp4 ⟨vpp4, rfl, ho, hb⟩
  obtain ⟨App4, cpp4, rfl⟩ := Kd.R_slice ho
  have OPp4 := Aside0.mk ho
  have BPp4 := Aside0.mk hb
  clear ho hb
  go_wp2_with fail
  (with_reducible refine (joined_step k W6 Wxp4 Wyp4 Wpp4 vxp4 _ A0 c0 l0 App4 cpp4 p4 BXp4.out BYp4.out BPp4.out OXp4.out (Kd.C_below HR0_.out BW6.out) HC0_.out OPp4.out J3_.out).mono ?_)
  rintro e Wjp4 ⟨rfl, hb, hk⟩
  have BJp4 := Aside0.mk hb
  have KJp4 := Aside0.mk hk
  clear hb hk
  go_wp2_with fail
  (with_reducible refine (moraineref01_Fixed.calls k v 4 p4 _ H4_.out).mono ?_)
  rintro e Wqp4 ⟨vqp4, rfl, ho, hb⟩
  obtain ⟨Aqp4, cqp4, rfl⟩ := Kd.R_slice ho
  have OQp4 := Aside0.mk ho
  have BQp4 := Aside0.mk hb
  clear ho hb
  go_wp2_with fail
  (with_reducible refine (joined_step2 k W6 Wxp4 Wyp4 Wpp4 Wjp4 Wqp4 vxp4 _ vyp4 _ A0 c0 l0 Aqp4 cqp4 p4 BXp4.out BYp4.out BPp4.out BJp4.out KJp4.out BQp4.out OXp4.out OYp4.out (Kd.C_below HR0_.out BW6.out) HC0_.out OQp4.out J3_.out).mono ?_)
  rintro e W7 ⟨rfl, hb⟩
  have BW7 := Aside0.mk (below_step BW6.out hb)
  have BI7 := Aside0.mk (below_step BI6.out hb)
  clear hb OXp4 OYp4 OPp4 OQp4 BXp4 BYp4 BPp4 BJp4 KJp4 BQp4
  go_wp2_with fail
  (with_reducible refine (codec_PutText.calls k _ _ l0 s (l0 ++ pt) _ (Kd.C_below HP1.out BI7.out) HPC.out G4_.out).mono ?_)
  rintro e Wxpt ⟨vxpt, rfl, ho, hb⟩
  have OXpt := Aside0.mk ho
  have BXpt := Aside0.mk hb
  clear ho hb
  go_wp2_with fail
  (with_reducible refine (codec_PutText.calls k _ _ l0 s (l0 ++ pt) _ (Kd.C_below (Kd.C_below HP1.out BI7.out) BXpt.out) HPC.out G4_.out).mono ?_)
  rintro e Wypt ⟨vypt, rfl, ho, hb⟩
  have OYpt := Aside0.mk ho
  have BYpt := Aside0.mk hb
  clear ho hb
  go_wp2_with fail
  (with_reducible refine (moraineref01_Text.calls k s pt _ HT_.out).mono ?_)
  rintro e Wppt ⟨vppt, rfl, ho, hb⟩
  obtain ⟨Appt, cppt, rfl⟩ := Kd.R_slice ho
  have OPpt := Aside0.mk ho
  have BPpt := Aside0.mk hb
  clear ho hb
  go_wp2_with fail
  (with_reducible refine (joined_step k W7 Wxpt Wypt Wppt vxpt _ A0 c0 l0 Appt cppt pt BXpt.out BYpt.out BPpt.out OXpt.out (Kd.C_below HR0_.out BW7.out) HC0_.out OPpt.out J4_.out).mono ?_)
  rintro e Wjpt ⟨rfl, hb, hk⟩
  have BJpt := Aside0.mk hb
  have KJpt := Aside0.mk hk
  clear hb hk
  go_wp2_with fail
  (with_reducible refine (moraineref01_Text.calls k s pt _ HT_.out).mono ?_)
  rintro e Wqpt ⟨vqpt, rfl, ho, hb⟩
  obtain ⟨Aqpt, cqpt, rfl⟩ := Kd.R_slice ho
  have OQpt := Aside0.mk ho
  have BQpt := Aside0.mk hb
  clear ho hb
  go_wp2_with fail
  (with_reducible refine (joined_step2 k W7 Wxpt Wypt Wppt Wjpt Wqpt vxpt _ vypt _ A0 c0 l0 Aqpt cqpt pt BXpt.out BYpt.out BPpt.out BJpt.out KJpt.out BQpt.out OXpt.out OYpt.out (Kd.C_below HR0_.out BW7.out) HC0_.out OQpt.out J4_.out).mono ?_)
  rintro e W8 ⟨rfl, hb⟩
  have BW8 := Aside0.mk (below_step BW7.out hb)
  have BI8 := Aside0.mk (below_step BI7.out hb)
  clear hb OXpt OYpt OPpt OQpt BXpt BYpt BPpt BJpt KJpt BQpt
  go_wp2_with fail
  (with_reducible refine (morainelaw01_kept.calls _ _ l0 _ _ _ (Kd.C_below (by simpa using HIN.out.2.2) BI8.out) HIN.out.2.1 (Kd.C_below HR0_.out BW8.out) HL_.out).mono ?_)
  rintro e W9 ⟨rfl, hd⟩
  have BW9 := Aside0.mk (below_step BW8.out hd.below)
  clear hd
  go_wp2
  go_ret
  exact ⟨by simp, BW9.out⟩
theorem CodecPuts_upto (w : World) (A0 : Option Addr) (c0 : Nat) (l0 : List Int) (hc0 : l0.length ≤ c0) (hr0 : Kd.C (Kd.int .u8) w A0 l0.length l0) (hg0 : ∀ x ∈ l0, (Lit.int .u8 x).wf = true) (v : Int) (hv : (Lit.int .u64 v).wf = true) (s : ByteArray) (hs : s.size ≤ maxLen)
    (hbulk : (sumBulk (fun _ => 1) l0 + 1) + (1 + (s.size + 1)) ≤ 1048576) :
    Calls Try.prog 5 #[.slice A0 l0.length c0, .int .u64 v, .string s] w fun e w' => e = .returned (.bool true) ∧ Below w.heap.size w w' := by
  have ha : 0 ≤ v ∧ v ≤ 18446744073709551615 := by simpa [Lit.wf, IntKind.min, IntKind.max, IntKind.signed, IntKind.bits] using hv
  have n0 := sumBulk_len (fun _ => 1) (fun _ => Nat.le_refl 1) l0
  (try simp only [] at hbulk)
  have q0 := enc_len v
  have qt := encText_len s
  have q8 := fixF_len 8 v
  have q4 := fixF_len 4 v
  refine CodecPuts_calls 4194304 A0 c0 l0 v s w hr0 hc0 (by omega) (enc v) (fixF 8 v) (fixF 4 v) (encText s) (Size_eq _ v ha.1 (by omega) (by omega)) (RefVarint_eq _ v ha.1 (by omega) (by omega)) (RefFixed_eq _ v 8 (by omega) (by omega) ha.1 (by omega)) (RefFixed_eq _ v 4 (by omega) (by omega) ha.1 (by omega)) (RefText_eq _ s (by omega) (by omega))
    (PutVarint_eq _ l0 v ha.1 (by omega) (by omega) (by omega)) (PutFixed64_eq _ l0 v (by omega) (by omega)) ?_ (PutText_eq _ l0 s (by omega) (by omega)) (joined_eq _ l0 _ (by omega) (by omega) (by omega)) (joined_eq _ l0 _ (by omega) (by omega) (by omega)) (joined_eq _ l0 _ (by omega) (by omega) (by omega)) (joined_eq _ l0 _ (by omega) (by omega) (by omega))
  rw [← fix4_mod v]
  exact PutFixed32_eq _ l0 _ (by omega) (by omega) (by omega) (by omega)

end Go.Proofs.Ytlfikdpcfoflfaa.G
