/- Contracts typed by hand: the law CodecBack: its walk and its plain law -/
import Derived.Test.YtlfikdpcfoflfaaProg
import Derived.Below
import Derived.Deep.Draws
import Derived.Deep.AppendLies
import Derived.Maps.AppendAt
import Derived.OwnWalk
import Derived.Laws.BytesArg
import Derived.Laws.MakeOwn
import Derived.Laws.OwnMore
import Derived.Deep.OwnRows
import Derived.Tactics
import Derived.Lib.ConvBytes
import Derived.Laws.Slices
import Derived.WalkKit
import Derived.KernelRfl
import Derived.RowKit3
import Derived.Deep.LoopGhost
import Derived.Deep.QuietTactic
import Derived.BigQuiet
import Derived.WideLaws
import Derived.Deep.DeepCutAuto
import Derived.Deep.CutBlock
import Derived.Deep.RegionHeld3
import Derived.Laws.Rows
import Derived.Lib.AppendStr
import Derived.ArgAppend
import Derived.Laws.IdiomCopy
import Derived.OrdersHeld
import Derived.Laws.BitsLemmas
import Derived.RowKit
import Derived.Test.YtlfikdpcfoflfaaWWords
import Derived.Test.YtlfikdpcfoflfaaWLast
import Derived.Test.YtlfikdpcfoflfaaWTab
import Derived.Test.YtlfikdpcfoflfaaWFour
import Derived.Test.YtlfikdpcfoflfaaWQPut
import Derived.Test.YtlfikdpcfoflfaaWApart
import Derived.Test.YtlfikdpcfoflfaaWArr
import Derived.Test.YtlfikdpcfoflfaaWZeros
import Derived.Test.YtlfikdpcfoflfaaWFoot
import Derived.Test.YtlfikdpcfoflfaaWKept
import Derived.Test.YtlfikdpcfoflfaaWShare
import Derived.Test.YtlfikdpcfoflfaaWN
import Derived.Test.YtlfikdpcfoflfaaWFootNe
import Derived.Test.YtlfikdpcfoflfaaWAt
import Derived.Test.YtlfikdpcfoflfaaWEqStruct
import Derived.Test.YtlfikdpcfoflfaaWRepsOne
import Derived.Test.YtlfikdpcfoflfaaWInv
import Derived.Test.YtlfikdpcfoflfaaWInvWords
import Derived.Test.YtlfikdpcfoflfaaWGuard
import Derived.Test.YtlfikdpcfoflfaaWNEv
import Derived.Test.YtlfikdpcfoflfaaWMore
import Derived.Test.YtlfikdpcfoflfaaPureEnc
import Derived.Test.YtlfikdpcfoflfaaManText
import Derived.Test.YtlfikdpcfoflfaaOpens
import Derived.Deep.QuietTactic
import Derived.BigQuiet
import Derived.Test.YtlfikdpcfoflfaaGx13
import Derived.Test.YtlfikdpcfoflfaaGx11
import Derived.Test.YtlfikdpcfoflfaaGx16
import Derived.Test.YtlfikdpcfoflfaaGx17
import Derived.Test.YtlfikdpcfoflfaaGx18
import Derived.Test.YtlfikdpcfoflfaaGx6
import Derived.Test.YtlfikdpcfoflfaaGx8
namespace Go.Proofs.Ytlfikdpcfoflfaa.G
open Go.RowKit Go.Proofs.YtlfikdpcfoflfaaW.PrintWords Go.Proofs.YtlfikdpcfoflfaaW.PrintLast Go.Proofs.YtlfikdpcfoflfaaW.PrintMore
attribute [local go_sem] max2_int min2_int max_two min_two max_three min_three max_four min_four
set_option linter.unusedVariables false
set_option linter.unusedSimpArgs false

/-! the law CodecBack: its walk and its plain law -/
theorem le_fixF : ∀ (n : Nat) (v : Int), 0 ≤ v → le (fixF n v) = v % 256 ^ n
  | 0, v, _ => by simp [fixF, le]
  | n + 1, v, h => by
    obtain ⟨m, rfl⟩ := Int.eq_ofNat_of_zero_le h
    simp only [fixF, le]
    rw [le_fixF n _ (by omega)]
    have e := Nat.mod_mul (a := 256) (b := 256 ^ n) (x := m)
    have e1 : ((m : Int) / 256) = ((m / 256 : Nat) : Int) := by omega
    have e2 : ((m / 256 : Nat) : Int) % 256 ^ n = ((m / 256 % 256 ^ n : Nat) : Int) := by
      rw [Int.natCast_emod, Int.natCast_pow]; rfl
    have e3 : (m : Int) % 256 ^ (n + 1) = ((m % (256 * 256 ^ n) : Nat) : Int) := by
      rw [Int.natCast_emod, ← Nat.pow_succ', Int.natCast_pow]; rfl
    rw [e1, e2, e3, e]
    omega
theorem seg_mid (a b c : List Int) : seg (a ++ b ++ c) a.length b.length = b := by
  unfold seg
  rw [List.append_assoc, List.drop_left, List.take_left]
theorem Fixed64_put (k : Nat) (a c : List Int) (v : Int) (h0 : 0 ≤ v) (h1 : v < 18446744073709551616) (hb : Bytes (a ++ fixF 8 v ++ c)) (hl : (a ++ fixF 8 v ++ c).length ≤ 140737488355328) (hk : 10 ≤ k) : codec_Fixed64.f k (a ++ fixF 8 v ++ c) a.length = some (v, (a.length : Int) + 8, 0) := by
  unfold codec_Fixed64.f
  rw [show (8 : Int) = ((8 : Nat) : Int) by omega, fixed_eq _ _ 8 k hb hl (by omega) hk]
  have hlen : (a ++ fixF 8 v ++ c).length = a.length + 8 + c.length := by rw [List.length_append, List.length_append, fixF_len]
  have e : fixv (a ++ fixF 8 v ++ c) a.length 8 = (v, (a.length : Int) + 8, 0) := by
    unfold fixv
    rw [if_neg (by omega), if_neg (by omega), if_neg (by omega), Int.toNat_natCast]
    have hs := seg_mid a (fixF 8 v) c
    rw [fixF_len] at hs
    rw [hs, le_fixF 8 v h0]
    have : (256 : Int) ^ 8 = 18446744073709551616 := by decide
    rw [this, show v % 18446744073709551616 = v by omega]
    rfl
  rw [e]
  rfl
theorem Fixed32_put (k : Nat) (a c : List Int) (v : Int) (h0 : 0 ≤ v) (h1 : v < 4294967296) (hb : Bytes (a ++ fixF 4 v ++ c)) (hl : (a ++ fixF 4 v ++ c).length ≤ 140737488355328) (hk : 10 ≤ k) : codec_Fixed32.f k (a ++ fixF 4 v ++ c) a.length = some (v, (a.length : Int) + 4, 0) := by
  unfold codec_Fixed32.f
  rw [show (4 : Int) = ((4 : Nat) : Int) by omega, fixed_eq _ _ 4 k hb hl (by omega) hk]
  have hlen : (a ++ fixF 4 v ++ c).length = a.length + 4 + c.length := by rw [List.length_append, List.length_append, fixF_len]
  have e : fixv (a ++ fixF 4 v ++ c) a.length 4 = (v, (a.length : Int) + 4, 0) := by
    unfold fixv
    rw [if_neg (by omega), if_neg (by omega), if_neg (by omega), Int.toNat_natCast]
    have hs := seg_mid a (fixF 4 v) c
    rw [fixF_len] at hs
    rw [hs, le_fixF 4 v h0]
    have : (256 : Int) ^ 4 = 4294967296 := by decide
    rw [this, show v % 4294967296 = v by omega]
    rfl
  rw [e]
  simp only [Option.bind_some]
  rw [show v % 4294967296 = v by omega]
  rfl
theorem strOfNums_bytesOf (s : ByteArray) : strOfNums (bytesOf s) = s := by
  unfold strOfNums bytesOf
  rw [List.map_map]
  have : (s.data.toList.map ((fun x : Int => UInt8.ofNat x.toNat) ∘ fun b : UInt8 => (b.toNat : Int))) = s.data.toList := by
    conv => rhs; rw [← List.map_id s.data.toList]
    apply List.map_congr_left
    intro b _
    simp
  first
    | (rw [this]; simp)
    | (simp_all)
theorem Text_put (a c : List Int) (s : ByteArray) (hl : (a ++ encText s ++ c).length ≤ 140737488355328) : codec_Text.f (a ++ encText s ++ c) a.length = some (s, (a.length : Int) + ((encText s).length : Int), 0) := by
  have hlen : (a ++ encText s ++ c).length = a.length + (encText s).length + c.length := by rw [List.length_append, List.length_append]
  have hel : (encText s).length = (enc (s.size : Int)).length + s.size := by unfold encText; rw [List.length_append, bytesOf_length]
  have e : a ++ encText s ++ c = a ++ enc (s.size : Int) ++ (bytesOf s ++ c) := by unfold encText; simp
  have hv := Varint_put a (bytesOf s ++ c) (s.size : Int) (by omega) (by omega) (by rw [← e]; exact hl)
  rw [← e] at hv
  unfold codec_Text.f
  rw [hv]
  simp only [Option.bind_some, if_true]
  rw [if_pos (by omega), if_pos (by omega), if_pos (by omega), if_pos (by omega), if_neg (by omega)]
  have t1 : ((a.length : Int) + ((enc (s.size : Int)).length : Int) + (s.size : Int)).toNat = (a ++ encText s).length := by rw [List.length_append, hel]; omega
  have t2 : ((a.length : Int) + ((enc (s.size : Int)).length : Int)).toNat = (a ++ enc (s.size : Int)).length := by rw [List.length_append]; omega
  have t3 : a ++ encText s = (a ++ enc (s.size : Int)) ++ bytesOf s := by unfold encText; simp
  rw [t1, t2, List.take_left, t3, List.drop_left, strOfNums_bytesOf]
  congr 2
  rw [hel]
  congr 1
  omega
theorem PutFixed64_eq (k : Nat) (l : List Int) (v : Int) (hk : 10 ≤ k) (hl : l.length ≤ 140737488355200) : codec_PutFixed64.f k l v = some (l ++ fixF 8 v) := by
  unfold codec_PutFixed64.f
  rw [show (8 : Int) = ((8 : Nat) : Int) by omega, fixed_f k l v 8 (by omega) (by omega) hl]
  simp only [Option.bind_some]
theorem PutFixed32_eq (k : Nat) (l : List Int) (v : Int) (h0 : 0 ≤ v) (h1 : v < 4294967296) (hk : 10 ≤ k) (hl : l.length ≤ 140737488355200) : codec_PutFixed32.f k l v = some (l ++ fixF 4 v) := by
  unfold codec_PutFixed32.f
  have w : IntKind.u64.wrap v = v := by rw [Go.IntKind.wrap_u64]; omega
  rw [w, show (4 : Int) = ((4 : Nat) : Int) by omega, fixed_f k l v 4 (by omega) (by omega) hl]
  simp only [Option.bind_some]
theorem PutText_eq (k : Nat) (l : List Int) (s : ByteArray) (hk : 10 ≤ k) (hl : l.length + s.size ≤ 140737488355200) : codec_PutText.f k l s = some (l ++ encText s) := by
  have w : IntKind.u64.wrap (s.size : Int) = (s.size : Int) := by rw [Go.IntKind.wrap_u64]; omega
  have hn := enc_len (s.size : Int)
  have w2 : wrap64 (((enc (s.size : Int)).length : Int) + (s.size : Int)) = ((enc (s.size : Int)).length : Int) + (s.size : Int) := by unfold wrap64; omega
  have e3 : codec_varint.f k l (s.size : Int) = some (l ++ enc (s.size : Int)) := by
    unfold codec_varint.f
    exact varint_eq 9 k l _ (small9 _ (by omega) (by omega)) (by omega) (by omega)
  have h3 : (l ++ enc (s.size : Int)).length + s.size < 140737488355328 := by rw [List.length_append]; omega
  have e4 : l ++ encText s = (l ++ enc (s.size : Int)) ++ bytesOf s := by rw [encText, List.append_assoc]
  rw [e4]
  generalize l ++ enc (s.size : Int) = q at *
  unfold codec_PutText.f
  rw [w, Size_eq k _ (by omega) (by omega) hk, Option.bind_some, w2, grown_eq l _ (by omega) (by omega), Option.bind_some, e3, Option.bind_some, if_pos h3]
theorem codec_Varint.calls' (A0 : Option Addr) (c0 : Nat) (l0 : List Int) (a1 r1 r2 r3 : Int) (w : World) {m : Nat} (hm : l0.length = m) (hr0 : Kd.C (Kd.int .u8) w A0 l0.length l0) (hc0 : l0.length ≤ c0) (h : codec_Varint.f l0 a1 = some (r1, r2, r3)) :
    Calls Try.prog 26 #[.slice A0 m c0, .int .i64 a1] w fun e w' => e = .returned (.tuple #[.int .u64 r1, .int .i64 r2, .int .i64 r3]) ∧ Drawn0 w w' := by
  subst hm
  exact codec_Varint.calls A0 c0 l0 a1 r1 r2 r3 w hr0 hc0 h
theorem Fixed64_calls' (k : Nat) (A0 : Option Addr) (c0 : Nat) (l0 : List Int) (a1 r1 r2 r3 : Int) (w : World) {m : Nat} (hm : l0.length = m) (hr0 : Kd.C (Kd.int .u8) w A0 l0.length l0) (hc0 : l0.length ≤ c0) (h : codec_Fixed64.f k l0 a1 = some (r1, r2, r3)) :
    Calls Try.prog 30 #[.slice A0 m c0, .int .i64 a1] w fun e w' => e = .returned (.tuple #[.int .u64 r1, .int .i64 r2, .int .i64 r3]) ∧ Drawn0 w w' := by
  subst hm
  exact codec_Fixed64.calls k A0 c0 l0 a1 r1 r2 r3 w hr0 hc0 h
theorem Fixed32_calls' (k : Nat) (A0 : Option Addr) (c0 : Nat) (l0 : List Int) (a1 r1 r2 r3 : Int) (w : World) {m : Nat} (hm : l0.length = m) (hr0 : Kd.C (Kd.int .u8) w A0 l0.length l0) (hc0 : l0.length ≤ c0) (h : codec_Fixed32.f k l0 a1 = some (r1, r2, r3)) :
    Calls Try.prog 28 #[.slice A0 m c0, .int .i64 a1] w fun e w' => e = .returned (.tuple #[.int .u32 r1, .int .i64 r2, .int .i64 r3]) ∧ Drawn0 w w' := by
  subst hm
  exact codec_Fixed32.calls k A0 c0 l0 a1 r1 r2 r3 w hr0 hc0 h
theorem Text_calls' (A0 : Option Addr) (c0 : Nat) (l0 : List Int) (a1 : Int) (r1 : ByteArray) (r2 r3 : Int) (w : World) {m : Nat} (hm : l0.length = m) (hr0 : Kd.C (Kd.int .u8) w A0 l0.length l0) (hc0 : l0.length ≤ c0) (h : codec_Text.f l0 a1 = some (r1, r2, r3)) :
    Calls Try.prog 31 #[.slice A0 m c0, .int .i64 a1] w fun e w' => e = .returned (.tuple #[.string r1, .int .i64 r2, .int .i64 r3]) ∧ Drawn0 w w' := by
  subst hm
  exact codec_Text.calls A0 c0 l0 a1 r1 r2 r3 w hr0 hc0 h
set_option maxHeartbeats 4000000 in
set_option maxRecDepth 100000 in
theorem CodecBack_calls (k : Nat) (A0 : Option Addr) (c0 : Nat) (l0 : List Int) (A1 : Option Addr) (c1 : Nat) (l1 : List Int) (v : Int) (s : ByteArray) (w : World) (hr0 : Kd.C (Kd.int .u8) w A0 l0.length l0) (hc0 : l0.length ≤ c0) (hr1 : Kd.C (Kd.int .u8) w A1 l1.length l1) (hc1 : l1.length ≤ c1)
    (p1 p2 p3 p4 p5 : List Int) (u n1 n2 n3 n4 z : Int) (hl0 : l0.length ≤ 1048576) (hl1 : l1.length ≤ 1048576) (hp : p4.length ≤ 10000000) (h0 : 0 ≤ v) (h1v : v < 18446744073709551616)
    (h1 : codec_PutVarint.f k l0 v = some p1) (h2 : codec_PutFixed64.f k p1 v = some p2) (h3 : codec_PutFixed32.f k p2 (v % 4294967296) = some p3) (h4 : codec_PutText.f k p3 s = some p4) (h5 : p5 = p4 ++ l1)
    (g1 : codec_Varint.f p5 (l0.length : Int) = some (v, n1, 0)) (gs : codec_Size.f k v = some z) (gz : n1 = (l0.length : Int) + z) (z0 : 0 ≤ z) (z1 : z ≤ 10) (g2 : codec_Fixed64.f k p5 n1 = some (v, n2, 0)) (g3 : codec_Fixed32.f k p5 n2 = some (v % 4294967296, n3, 0)) (g4 : codec_Text.f p5 n3 = some (s, n4, 0)) (gn : n4 = (p5.length : Int) - (l1.length : Int)) :
    Calls Try.prog 8 #[.agg #[.slice A0 l0.length c0, .slice A1 l1.length c1], .int .u64 v, .string s] w fun e w' => e = .returned (.bool true) ∧ Below w.heap.size w w' := by
  have hz : v % 4294967296 = IntKind.u32.wrap v := by rw [Go.IntKind.wrap_u32]
  have hinfo : (Try.prog.info? 5).map (fun i => (i.zero, i.size, i.bytes)) = some (some (.int .u8 0), 1, 1) := by kernel_rfl
  have HI := Aside0.mk hinfo
  have H1 := Aside0.mk h1
  have H2 := Aside0.mk h2
  have H3 := Aside0.mk h3
  have H4 := Aside0.mk h4
  have H5 := Aside0.mk h5
  have G1 := Aside0.mk g1
  have GS := Aside0.mk gs
  have G2 := Aside0.mk g2
  have G3 := Aside0.mk g3
  have G4 := Aside0.mk g4
  have HR0 := Aside0.mk hr0
  have HC0 := Aside0.mk hc0
  have HR1 := Aside0.mk hr1
  have HC1 := Aside0.mk hc1
  have hlen5 : p5.length = p4.length + l1.length := by rw [h5, List.length_append]
  generalize hm5 : p5.length = m5 at *
  have b1 : (n1 != (l0.length : Int) + z) = false := by rw [gz]; simp
  have b2 : (n4 == (m5 : Int) - (l1.length : Int)) = true := by rw [gn]; simp
  have hm5l : m5 ≤ 20000000 := by omega
  have hm5g : l1.length ≤ m5 := by omega
  have B1 := Aside0.mk b1
  have B2 := Aside0.mk b2
  have HM5 := Aside0.mk hm5
  clear hz hinfo h1 h2 h3 h4 h5 g1 gs g2 g3 g4 gz gn hr0 hc0 hr1 hc1 hlen5 hm5
  have HB0 := Aside0.mk (Below.refl w.heap.size w)
  have bz1 := B1.out
  have bz2 := B2.out
  go_enter Try.func8, Try.ntmps8
  go_wp2
  go_quiet (fail)
  go_wp2_with (first
    | (go_at_call 18; (with_reducible refine (codec_PutVarint.calls k _ _ l0 v p1 _ ?a1 HC0.out H1.out).mono ?_); (case a1 => repeat (first | exact HR0.out | (with_reducible refine Kd.C_drewN ?_ _) | (with_reducible refine Kd.C_drew ?_) | (with_reducible refine Kd.C_alloc ?_ _))); rintro e w1 ⟨v1, rfl, ho, hb⟩; have HB1 := Aside0.mk (below_step (by repeat (first | exact HB0.out | apply pw_below_drewN | apply below_drew1 | apply below_alloc)) hb); obtain ⟨B1_, d1, e1⟩ := Kd.R_slice ho; subst e1; have HO1 := Aside0.mk (Kd.R_reads' ho); clear ho hb)
    | (go_at_call 20; (with_reducible refine (codec_PutFixed64.calls k _ _ p1 v p2 _ HO1.out.2.2 HO1.out.2.1 H2.out).mono ?_); rintro e w2 ⟨v2, rfl, ho, hb⟩; have HB2 := Aside0.mk (below_step HB1.out hb); obtain ⟨B2_, d2, e2⟩ := Kd.R_slice ho; subst e2; have HO2 := Aside0.mk (Kd.R_reads' ho); clear ho hb)
    | (go_at_call 22; (with_reducible refine (codec_PutFixed32.calls k _ _ p2 (v % 4294967296) p3 _ HO2.out.2.2 HO2.out.2.1 H3.out).mono ?_); rintro e w3 ⟨v3, rfl, ho, hb⟩; have HB3 := Aside0.mk (below_step HB2.out hb); obtain ⟨B3_, d3, e3⟩ := Kd.R_slice ho; subst e3; have HO3 := Aside0.mk (Kd.R_reads' ho); clear ho hb)
    | (go_at_call 23; (with_reducible refine (codec_PutText.calls k _ _ p3 s p4 _ HO3.out.2.2 HO3.out.2.1 H4.out).mono ?_); rintro e w4 ⟨v4, rfl, ho, hb⟩; have HB4 := Aside0.mk (below_step HB3.out hb); have HO4 := Aside0.mk (Kd.R_lower ho HB3.out.size); clear ho hb)
    | ((with_reducible refine gate_builtin (b := .append) (xs := #[.tmp 30, .tmp 31]) rfl ?_); at_builtin; refine Kd.R_append_rows (Kd.int .u8) (w0 := w) w.heap.size rfl (.tmp 30) (.tmp 31) 26 5 (.int .u8 0) 1 rfl Try.underlying26 HI.out rfl (by decide) (by omega) v4 p4 l1 _ _ _ (fun _ => True) (fun _ => False) rfl rfl HO4.out ?aR (fun _ _ h => h) (fun _ h => h.elim) (fun _ _ => trivial) HB4.out HB4.out.size ?aL ?_; (case aR => exact (Kd.C_below HR1.out HB4.out)); (case aL => omega); intro v5 w5 ho hb hg hat; have HB5 := Aside0.mk hb; rw [← H5.out] at ho; obtain ⟨B5_, d5, e5⟩ := Kd.R_slice ho; subst e5; have HO5 := Aside0.mk (Kd.R_reads' ho); rw [HM5.out]; clear ho hb hg hat)
    | (go_at_call 26; (with_reducible refine (codec_Varint.calls' _ _ p5 _ _ _ _ _ HM5.out HO5.out.2.2 HO5.out.2.1 G1.out).mono ?_); rintro e w' ⟨rfl, ⟨nd, rfl⟩⟩)
    | (go_at_call 16; (with_reducible refine (codec_Size.calls k v z _ GS.out).mono ?_); rintro e w' ⟨rfl, ⟨nd, rfl⟩⟩)
    | (go_at_call 30; (with_reducible refine (Fixed64_calls' k _ _ p5 _ _ _ _ _ HM5.out ?s1 HO5.out.2.1 G2.out).mono ?_); (case s1 => repeat (first | exact HO5.out.2.2 | (with_reducible refine Kd.C_drewN ?_ _))); rintro e w' ⟨rfl, ⟨nd, rfl⟩⟩)
    | (go_at_call 28; (with_reducible refine (Fixed32_calls' k _ _ p5 _ _ _ _ _ HM5.out ?s2 HO5.out.2.1 G3.out).mono ?_); (case s2 => repeat (first | exact HO5.out.2.2 | (with_reducible refine Kd.C_drewN ?_ _))); rintro e w' ⟨rfl, ⟨nd, rfl⟩⟩)
    | (go_at_call 31; (with_reducible refine (Text_calls' _ _ p5 _ _ _ _ _ HM5.out ?s3 HO5.out.2.1 G4.out).mono ?_); (case s3 => repeat (first | exact HO5.out.2.2 | (with_reducible refine Kd.C_drewN ?_ _))); rintro e w' ⟨rfl, ⟨nd, rfl⟩⟩))
  go_ret
  exact ⟨by simp, by repeat (first | exact HB5.out | apply pw_below_drewN)⟩
theorem CodecBack_upto (w : World) (cs0 : Array Value) (x0 : ((List Int) × (List Int))) (hK0 : (Kd.pair (Kd.slice 5 (Kd.int .u8)) (Kd.slice 5 (Kd.int .u8))).K w x0 cs0.toList) (hg0 : (∀ x ∈ x0.1, (Lit.int .u8 x).wf = true) ∧ (∀ x ∈ x0.2, (Lit.int .u8 x).wf = true)) (v : Int) (hv : (Lit.int .u64 v).wf = true) (s : ByteArray) (hs : s.size ≤ maxLen)
    (hbulk : (sumBulk (fun _ => 1) x0.1 + 1) + (sumBulk (fun _ => 1) x0.2 + 1) + 1 + (1 + (s.size + 1)) ≤ 1048576) :
    Calls Try.prog 8 #[.agg cs0, .int .u64 v, .string s] w fun e w' => e = .returned (.bool true) ∧ Below w.heap.size w w' := by
  obtain ⟨l0, l1⟩ := x0
  obtain ⟨_, _, hcs, ⟨A0, c0, rfl, hc0, hr0⟩, ⟨A1, c1, rfl, hc1, hr1⟩⟩ := hK0
  obtain rfl : cs0 = #[.slice A0 l0.length c0, .slice A1 l1.length c1] := by
    apply Array.toList_inj.1
    simpa using hcs
  have hb0 := bytes_of_wf hg0.1
  have hb1 := bytes_of_wf hg0.2
  have ha : 0 ≤ v ∧ v ≤ 18446744073709551615 := by simpa [Lit.wf, IntKind.min, IntKind.max, IntKind.signed, IntKind.bits] using hv
  have n0 := sumBulk_len (fun _ => 1) (fun _ => Nat.le_refl 1) l0
  have n1 := sumBulk_len (fun _ => 1) (fun _ => Nat.le_refl 1) l1
  simp only [] at hbulk
  have q0 := enc_len v
  have qt := encText_len s
  have q8 := fixF_len 8 v
  have q4 := fixF_len 4 (v % 4294967296)
  generalize hE : enc v = E at *
  generalize hF8 : fixF 8 v = F8 at *
  generalize hF4 : fixF 4 (v % 4294967296) = F4 at *
  generalize hET : encText s = ET at *
  have bE : Bytes E := hE ▸ enc_bytes v ha.1
  have b8 : Bytes F8 := hF8 ▸ fixF_bytes 8 v
  have b4 : Bytes F4 := hF4 ▸ fixF_bytes 4 _
  have bT : Bytes ET := hET ▸ encText_bytes s
  have hB : Bytes (l0 ++ E ++ F8 ++ F4 ++ ET ++ l1) := ((((hb0.append bE).append b8).append b4).append bT).append hb1
  have hL : (l0 ++ E ++ F8 ++ F4 ++ ET ++ l1).length = l0.length + E.length + 8 + 4 + ET.length + l1.length := by simp only [List.length_append]; omega
  refine CodecBack_calls 24 A0 c0 l0 A1 c1 l1 v s w hr0 hc0 hr1 hc1 (l0 ++ E) (l0 ++ E ++ F8) (l0 ++ E ++ F8 ++ F4) (l0 ++ E ++ F8 ++ F4 ++ ET) (l0 ++ E ++ F8 ++ F4 ++ ET ++ l1) v ((l0.length : Int) + E.length) ((l0.length : Int) + E.length + 8) ((l0.length : Int) + E.length + 8 + 4) ((l0.length : Int) + E.length + 8 + 4 + ET.length) (E.length : Int) (by omega) (by omega) ?_ ha.1 (by omega) ?_ ?_ ?_ ?_ rfl ?_ ?_ rfl (by omega) (by omega) ?_ ?_ ?_ ?_
  · simp only [List.length_append]; omega
  · rw [← hE]; exact PutVarint_eq 24 l0 v ha.1 (by omega) (by omega) (by omega)
  · rw [← hF8]; exact PutFixed64_eq 24 _ v (by omega) (by simp only [List.length_append]; omega)
  · rw [← hF4]; exact PutFixed32_eq 24 _ _ (by omega) (by omega) (by omega) (by simp only [List.length_append]; omega)
  · rw [← hET]; exact PutText_eq 24 _ s (by omega) (by simp only [List.length_append]; omega)
  · have := Varint_put l0 (F8 ++ F4 ++ ET ++ l1) v ha.1 (by omega) (by rw [hE]; simp only [List.length_append]; omega)
    rw [hE] at this
    simpa [List.append_assoc] using this
  · rw [← hE]; exact Size_eq 24 v ha.1 (by omega) (by omega)
  · have := Fixed64_put 24 (l0 ++ E) (F4 ++ ET ++ l1) v ha.1 (by omega) (by rw [hF8]; simpa [List.append_assoc] using hB) (by rw [hF8]; simp only [List.length_append]; omega) (by omega)
    rw [hF8, List.length_append, Int.natCast_add] at this
    simpa [List.append_assoc] using this
  · have := Fixed32_put 24 (l0 ++ E ++ F8) (ET ++ l1) (v % 4294967296) (by omega) (by omega) (by rw [hF4]; simpa [List.append_assoc] using hB) (by rw [hF4]; simp only [List.length_append]; omega) (by omega)
    rw [hF4, List.length_append, List.length_append, q8, Int.natCast_add, Int.natCast_add] at this
    simpa [List.append_assoc] using this
  · have := Text_put (l0 ++ E ++ F8 ++ F4) l1 s (by rw [hET]; simp only [List.length_append]; omega)
    rw [hET, List.length_append, List.length_append, List.length_append, q8, q4, Int.natCast_add, Int.natCast_add, Int.natCast_add] at this
    simpa [List.append_assoc] using this
  · rw [hL]; omega

end Go.Proofs.Ytlfikdpcfoflfaa.G
