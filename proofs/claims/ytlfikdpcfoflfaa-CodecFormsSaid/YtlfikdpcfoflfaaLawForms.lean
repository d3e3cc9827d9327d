/- Contracts typed by hand: the law CodecForms: its walk and its plain law -/
import Derived.Test.YtlfikdpcfoflfaaProg
import Derived.Below
import Derived.Deep.Draws
import Derived.Deep.AppendLies
import Derived.Maps.AppendAt
import Derived.OwnWalk
import Derived.Laws.BytesArg
import Derived.Laws.MakeOwn
import Derived.Laws.OwnMore
import Derived.Deep.OwnRows
import Derived.Tactics
import Derived.Lib.ConvBytes
import Derived.Laws.Slices
import Derived.WalkKit
import Derived.KernelRfl
import Derived.RowKit3
import Derived.Deep.LoopGhost
import Derived.Deep.QuietTactic
import Derived.BigQuiet
import Derived.WideLaws
import Derived.Deep.DeepCutAuto
import Derived.Deep.CutBlock
import Derived.Deep.RegionHeld3
import Derived.Laws.Rows
import Derived.Lib.AppendStr
import Derived.ArgAppend
import Derived.Laws.IdiomCopy
import Derived.OrdersHeld
import Derived.Laws.BitsLemmas
import Derived.RowKit
import Derived.Test.YtlfikdpcfoflfaaWWords
import Derived.Test.YtlfikdpcfoflfaaWLast
import Derived.Test.YtlfikdpcfoflfaaWTab
import Derived.Test.YtlfikdpcfoflfaaWFour
import Derived.Test.YtlfikdpcfoflfaaWQPut
import Derived.Test.YtlfikdpcfoflfaaWApart
import Derived.Test.YtlfikdpcfoflfaaWArr
import Derived.Test.YtlfikdpcfoflfaaWZeros
import Derived.Test.YtlfikdpcfoflfaaWFoot
import Derived.Test.YtlfikdpcfoflfaaWKept
import Derived.Test.YtlfikdpcfoflfaaWShare
import Derived.Test.YtlfikdpcfoflfaaWN
import Derived.Test.YtlfikdpcfoflfaaWFootNe
import Derived.Test.YtlfikdpcfoflfaaWAt
import Derived.Test.YtlfikdpcfoflfaaWEqStruct
import Derived.Test.YtlfikdpcfoflfaaWRepsOne
import Derived.Test.YtlfikdpcfoflfaaWInv
import Derived.Test.YtlfikdpcfoflfaaWInvWords
import Derived.Test.YtlfikdpcfoflfaaWGuard
import Derived.Test.YtlfikdpcfoflfaaWNEv
import Derived.Test.YtlfikdpcfoflfaaWMore
import Derived.Test.YtlfikdpcfoflfaaPureEnc
import Derived.Test.YtlfikdpcfoflfaaGx13
import Derived.Test.YtlfikdpcfoflfaaGx11
namespace Go.Proofs.Ytlfikdpcfoflfaa.G
open Go.RowKit Go.Proofs.YtlfikdpcfoflfaaW.PrintWords Go.Proofs.YtlfikdpcfoflfaaW.PrintLast Go.Proofs.YtlfikdpcfoflfaaW.PrintMore
attribute [local go_sem] max2_int min2_int max_two min_two max_three min_three max_four min_four
set_option linter.unusedVariables false
set_option linter.unusedSimpArgs false

/-! the law CodecForms: its walk and its plain law -/
theorem PutVarint_nil (k : Nat) (a1 : Int) (r : List Int) (w : World) (h : codec_PutVarint.f k [] a1 = some r) :
    Calls Try.prog 18 #[.slice none 0 0, .int .u64 a1] w fun e w' => ∃ v0_ : Value, e = .returned (v0_) ∧ Kd.R (Kd.int .u8) 5 w' w.heap.size (fun _ => True) v0_ r ∧ Below w.heap.size w w' :=
  codec_PutVarint.calls k none 0 [] a1 r w (Kd.C_nil _ _) (Nat.le_refl _) h
set_option maxHeartbeats 4000000 in
set_option maxRecDepth 100000 in
theorem CodecForms_bad (k : Nat) (A0 : Option Addr) (c0 : Nat) (l0 : List Int) (a1 : Int) (w : World) (hr0 : Kd.C (Kd.int .u8) w A0 l0.length l0) (hc0 : l0.length ≤ c0)
    (p : List Int) (hp1 : 1 ≤ p.length) (hp2 : p.length ≤ 10) (h1 : codec_PutVarint.f k [] a1 = some p) (h2 : codec_Size.f k a1 = some (p.length : Int)) (e : Int) (he : e ≠ 0) (h3 : codec_Varint.f l0 0 = some (0, 0, e)) :
    Calls Try.prog 6 #[.slice A0 l0.length c0, .int .u64 a1] w fun e w' => e = .returned (.bool true) ∧ Below w.heap.size w w' := by
  have H1 := Aside0.mk h1
  have H2 := Aside0.mk h2
  have H3 := Aside0.mk h3
  have HR := Aside0.mk hr0
  have HC := Aside0.mk hc0
  have b1 : (e != 0) = true := bne_iff_ne.2 he
  have b2 : (e == 0) = false := beq_eq_false_iff_ne.2 he
  clear h1 h2 h3 hr0 hc0 he
  generalize hm : p.length = m at hp1 hp2 H2
  have HM := Aside0.mk hm
  clear hm
  have b3 : decide ((m : Int) < 1) = false := decide_eq_false (by omega)
  have b4 : decide ((10 : Int) < (m : Int)) = false := decide_eq_false (by omega)
  go_enter Try.func6, Try.ntmps6
  go_wp2_with (first
    | (go_at_call 18; (with_reducible refine (PutVarint_nil k a1 p _ H1.out).mono ?_); rintro e w1 ⟨v1, rfl, ho, hb⟩; have HB := Aside0.mk hb; have HR1 := Aside0.mk (Kd.C_below HR.out hb); obtain ⟨A1, c1, e1⟩ := Kd.R_slice ho; subst e1; rw [HM.out]; clear ho hb)
    | (go_at_call 16; (with_reducible refine (codec_Size.calls k a1 (m : Int) _ H2.out).mono ?_); rintro e w' ⟨rfl, ⟨nd, rfl⟩⟩)
    | (go_at_call 26; (with_reducible refine (codec_Varint.calls _ _ l0 0 0 0 _ _ ?s1 HC.out H3.out).mono ?_); (case s1 => repeat (first | exact HR1.out | (with_reducible refine Kd.C_drewN ?_ _))); rintro e w' ⟨rfl, ⟨nd, rfl⟩⟩))
  go_ret
  exact ⟨by simp, by repeat (first | exact HB.out | apply pw_below_drewN)⟩
set_option maxHeartbeats 4000000 in
set_option maxRecDepth 100000 in
theorem CodecForms_good (k : Nat) (A0 : Option Addr) (c0 : Nat) (l0 : List Int) (a1 : Int) (w : World) (hr0 : Kd.C (Kd.int .u8) w A0 l0.length l0) (hc0 : l0.length ≤ c0) (hl : l0.length ≤ 140737488355328)
    (p : List Int) (hp1 : 1 ≤ p.length) (hp2 : p.length ≤ 10) (h1 : codec_PutVarint.f k [] a1 = some p) (h2 : codec_Size.f k a1 = some (p.length : Int)) (u : Int) (q : List Int) (h3 : codec_Varint.f l0 0 = some (u, (q.length : Int), 0))
    (h4 : codec_PutVarint.f k [] u = some q) (hq : l0.take q.length = q) (hq1 : 1 ≤ q.length) (hq2 : q.length ≤ l0.length) :
    Calls Try.prog 6 #[.slice A0 l0.length c0, .int .u64 a1] w fun e w' => e = .returned (.bool true) ∧ Below w.heap.size w w' := by
  have H1 := Aside0.mk h1
  have H2 := Aside0.mk h2
  have H3 := Aside0.mk h3
  have H4 := Aside0.mk h4
  have HR := Aside0.mk hr0
  have HC := Aside0.mk hc0
  have HQ : ∀ W : World, Kd.C (Kd.int .u8) W A0 l0.length l0 → (convert 26 9 (.slice A0 q.length c0)).run Try.prog W = .ok (.string (strOfNums q)) W := by
    intro W hW
    have h5 := Kd.C_take (m := q.length) hW hq2
    rw [hq] at h5
    exact Kd.C_string (P := Try.prog) (A := A0) (c := c0) Try.underlying26 Try.underlying5 Try.underlying9 h5
  have HQ2 : ∀ (W : World) (A : Option Addr) (c : Nat), Kd.C (Kd.int .u8) W A q.length q → (convert 26 9 (.slice A q.length c)).run Try.prog W = .ok (.string (strOfNums q)) W := by
    intro W A c h5
    exact Kd.C_string (P := Try.prog) (A := A) (c := c) Try.underlying26 Try.underlying5 Try.underlying9 h5
  have G1 := Aside0.mk HQ
  have G2 := Aside0.mk HQ2
  clear h1 h2 h3 h4 hr0 hq HQ HQ2
  generalize hm : p.length = m at hp1 hp2 H2
  have HM := Aside0.mk hm
  clear hm
  generalize hm2 : q.length = m2 at hq1 hq2 H3 G1 G2
  have HM2 := Aside0.mk hm2
  clear hm2
  have b3 : decide ((m : Int) < 1) = false := decide_eq_false (by omega)
  have b4 : decide ((10 : Int) < (m : Int)) = false := decide_eq_false (by omega)
  have b5 : decide ((1 : Int) ≤ (m2 : Int)) = true := decide_eq_true (by omega)
  have b6 : decide ((m2 : Int) ≤ (l0.length : Int)) = true := decide_eq_true (by omega)
  have hmc : m2 ≤ c0 := by omega
  go_enter Try.func6, Try.ntmps6
  go_wp2_with (first
    | (go_at_call 18; (with_reducible refine (PutVarint_nil k a1 p _ H1.out).mono ?_); rintro e w1 ⟨v1, rfl, ho, hb⟩; have HB := Aside0.mk hb; have HR1 := Aside0.mk (Kd.C_below HR.out hb); obtain ⟨A1, c1, e1⟩ := Kd.R_slice ho; subst e1; rw [HM.out]; clear ho hb)
    | (go_at_call 16; (with_reducible refine (codec_Size.calls k a1 (m : Int) _ H2.out).mono ?_); rintro e w' ⟨rfl, ⟨nd, rfl⟩⟩)
    | (go_at_call 26; (with_reducible refine (codec_Varint.calls _ _ l0 0 u (m2 : Int) 0 _ ?s1 HC.out H3.out).mono ?_); (case s1 => repeat (first | exact HR1.out | (with_reducible refine Kd.C_drewN ?_ _))); rintro e w' ⟨rfl, ⟨nd, rfl⟩⟩))
  refine start_ (n := 19) (S := fun w' => (convert 26 9 (.slice A0 m2 c0)).run Try.prog w' = .ok (.string (strOfNums q)) w') (ds := []) #[false, false, false, false, false, false, false, false, false, false, false, false, false, false, false, false, false, false, false] (by kernel_rfl) rfl rfl (G1.out _ (by repeat (first | exact HR1.out | (with_reducible refine Kd.C_drewN ?_ _) | (with_reducible refine Kd.C_drew ?_)))) (fun hHeld => ?_)
  refine pure_ (i := 0) (N := some 40) (v := ?_) (a' := ?_) #[true, false, false, false, false, false, false, false, false, false, false, false, false, false, false, false, false, false, false] rfl rfl (by kernel_rfl) (fun _ _ _ h => h) (Or.inl ⟨by rfl, ?_⟩) ?_ ?_
  rotate_left
  · intro w'
    go_simp
    with_reducible rfl
  rotate_left
  · simp only [Act.put, List.setIfInBounds_toArray, List.set_cons_zero, List.set_cons_succ, i64_w, i32_w]
    rfl
  refine pure_ (i := 1) (N := some 41) (v := ?_) (a' := ?_) #[true, true, false, false, false, false, false, false, false, false, false, false, false, false, false, false, false, false, false] rfl rfl (by kernel_rfl) (fun _ _ _ h => h) (Or.inl ⟨by rfl, ?_⟩) ?_ ?_
  rotate_left
  · intro w'
    go_simp
    with_reducible rfl
  rotate_left
  · simp only [Act.put, List.setIfInBounds_toArray, List.set_cons_zero, List.set_cons_succ, i64_w, i32_w]
    rfl
  refine pure_ (i := 2) (N := some 42) (v := ?_) (a' := ?_) #[true, true, true, false, false, false, false, false, false, false, false, false, false, false, false, false, false, false, false] rfl rfl (by kernel_rfl) (fun _ _ _ h => h) (Or.inl ⟨by rfl, ?_⟩) ?_ ?_
  rotate_left
  · intro w'
    go_simp
    with_reducible rfl
  rotate_left
  · simp only [Act.put, List.setIfInBounds_toArray, List.set_cons_zero, List.set_cons_succ, i64_w, i32_w]
    rfl
  refine pure_ (i := 3) (N := some 43) (v := ?_) (a' := ?_) #[true, true, true, true, false, false, false, false, false, false, false, false, false, false, false, false, false, false, false] rfl rfl (by kernel_rfl) (fun _ _ _ h => h) (Or.inl ⟨by rfl, ?_⟩) ?_ ?_
  rotate_left
  · intro w'
    go_simp
    with_reducible rfl
  rotate_left
  · simp only [Act.put, List.setIfInBounds_toArray, List.set_cons_zero, List.set_cons_succ, i64_w, i32_w]
    rfl
  refine pure_ (i := 4) (N := some 44) (v := ?_) (a' := ?_) #[true, true, true, true, true, false, false, false, false, false, false, false, false, false, false, false, false, false, false] rfl rfl (by kernel_rfl) (fun _ _ _ h => h) (Or.inl ⟨by rfl, ?_⟩) ?_ ?_
  rotate_left
  · intro w'
    go_simp
    with_reducible rfl
  rotate_left
  · simp only [Act.put, List.setIfInBounds_toArray, List.set_cons_zero, List.set_cons_succ, i64_w, i32_w]
    rfl
  refine pure_ (i := 5) (N := some 45) (v := ?_) (a' := ?_) #[true, true, true, true, true, true, false, false, false, false, false, false, false, false, false, false, false, false, false] rfl rfl (by kernel_rfl) (fun _ _ _ h => h) (Or.inl ⟨by rfl, ?_⟩) ?_ ?_
  rotate_left
  · intro w'
    go_simp
    with_reducible rfl
  rotate_left
  · simp only [Act.put, List.setIfInBounds_toArray, List.set_cons_zero, List.set_cons_succ, i64_w, i32_w]
    rfl
  refine pure_ (i := 6) (N := some 46) (v := ?_) (a' := ?_) #[true, true, true, true, true, true, true, false, false, false, false, false, false, false, false, false, false, false, false] rfl rfl (by kernel_rfl) (fun _ _ _ h => h) (Or.inl ⟨by rfl, ?_⟩) ?_ ?_
  rotate_left
  · intro w'
    go_simp
    with_reducible rfl
  rotate_left
  · simp only [Act.put, List.setIfInBounds_toArray, List.set_cons_zero, List.set_cons_succ, i64_w, i32_w]
    rfl
  refine pure_ (i := 7) (N := some 47) (v := ?_) (a' := ?_) #[true, true, true, true, true, true, true, true, false, false, false, false, false, false, false, false, false, false, false] rfl rfl (by kernel_rfl) (fun _ _ _ h => h) (Or.inl ⟨by rfl, ?_⟩) ?_ ?_
  rotate_left
  · intro w'
    go_simp
    with_reducible rfl
  rotate_left
  · simp only [Act.put, List.setIfInBounds_toArray, List.set_cons_zero, List.set_cons_succ, i64_w, i32_w]
    rfl
  refine pure_ (i := 8) (N := some 48) (v := ?_) (a' := ?_) #[true, true, true, true, true, true, true, true, true, false, false, false, false, false, false, false, false, false, false] rfl rfl (by kernel_rfl) (fun _ _ _ h => h) (Or.inl ⟨by rfl, ?_⟩) ?_ ?_
  rotate_left
  · intro w'
    go_simp
    with_reducible rfl
  rotate_left
  · simp only [Act.put, List.setIfInBounds_toArray, List.set_cons_zero, List.set_cons_succ, i64_w, i32_w]
    rfl
  refine pure_ (i := 9) (N := some 49) (v := ?_) (a' := ?_) #[true, true, true, true, true, true, true, true, true, true, false, false, false, false, false, false, false, false, false] rfl rfl (by kernel_rfl) (fun _ _ _ h => h) (Or.inl ⟨by rfl, ?_⟩) ?_ ?_
  rotate_left
  · intro w'
    go_simp
    with_reducible rfl
  rotate_left
  · simp only [Act.put, List.setIfInBounds_toArray, List.set_cons_zero, List.set_cons_succ, i64_w, i32_w]
    rfl
  refine pure_ (i := 12) (N := some 52) (v := ?_) (a' := ?_) #[true, true, true, true, true, true, true, true, true, true, false, false, true, false, false, false, false, false, false] rfl rfl (by kernel_rfl) (fun _ _ _ h => h) (Or.inl ⟨by rfl, ?_⟩) ?_ ?_
  rotate_left
  · intro w'
    go_simp
    with_reducible rfl
  rotate_left
  · simp only [Act.put, List.setIfInBounds_toArray, List.set_cons_zero, List.set_cons_succ, i64_w, i32_w]
    rfl
  refine pure_ (i := 13) (N := some 53) (v := ?_) (a' := ?_) #[true, true, true, true, true, true, true, true, true, true, false, false, true, true, false, false, false, false, false] rfl rfl (by kernel_rfl) (fun _ _ _ h => h) (Or.inl ⟨by rfl, ?_⟩) ?_ ?_
  rotate_left
  · intro w'
    go_simp
    with_reducible rfl
  rotate_left
  · simp only [Act.put, List.setIfInBounds_toArray, List.set_cons_zero, List.set_cons_succ, i64_w, i32_w]
    rfl
  refine pure_ (i := 14) (N := some 54) (v := ?_) (a' := ?_) #[true, true, true, true, true, true, true, true, true, true, false, false, true, true, true, false, false, false, false] rfl rfl (by kernel_rfl) (fun _ _ _ h => h) (Or.inl ⟨by rfl, ?_⟩) ?_ ?_
  rotate_left
  · intro w'
    go_simp
    with_reducible rfl
  rotate_left
  · simp only [Act.put, List.setIfInBounds_toArray, List.set_cons_zero, List.set_cons_succ, i64_w, i32_w]
    rfl
  refine take_ (i := 15) (N := some 55) (v := ?_) (a' := ?_) #[true, true, true, true, true, true, true, true, true, true, false, false, true, true, true, true, false, false, false] rfl rfl (by kernel_rfl) (fun _ _ _ h => h) (Or.inl ⟨by rfl, ?_⟩) hHeld ?_ ?_
  rotate_left
  · intro w' s0
    go_simp
    with_reducible rfl
  rotate_left
  · simp only [Act.put, List.setIfInBounds_toArray, List.set_cons_zero, List.set_cons_succ, i64_w, i32_w]
    rfl
  refine one_ (i := 10) (N := some 50) #[true, true, true, true, true, true, true, true, true, true, true, false, true, true, true, true, false, false, false] rfl rfl (by kernel_rfl) (by decide) (fun K hK => ?_)
  refine goes_ Try.func18 (by kernel_rfl) rfl #[.slice none 0 0, .int .u64 u] (by rfl) rfl rfl (by simp only [List.map_toArray, List.map_cons, List.map_nil]; rfl) ?_
  with_reducible refine (PutVarint_nil k u q _ H4.out).mono ?_
  rintro e w3 ⟨v3, rfl, ho, hb⟩
  refine ⟨_, rfl, ?_⟩
  have HB3 := Aside0.mk (below_step (by repeat (first | exact HB.out | apply pw_below_drewN | apply below_drew1)) hb)
  have HR3 := Aside0.mk (Kd.C_below HR.out HB3.out)
  obtain ⟨A3, c3, e3⟩ := Kd.R_slice ho
  subst e3
  have h6 := (Kd.R_reads' ho).2.2
  have h7 := HM2.out
  rw [h7] at h6 ⊢
  clear h7
  have g2 := G2.out w3 A3 c3 h6
  clear h6 ho hb
  refine hK.out _ _ (G1.out _ HR3.out) (fun hHeld => ?_)
  clear hK K
  refine norm_ (a' := ?_) ?_ ?_
  rotate_left
  · show Act.put _ (some 50) _ = _
    simp only [Act.put, List.setIfInBounds_toArray, List.set_cons_zero, List.set_cons_succ, i64_w, i32_w]
    rfl
  refine one_ (i := 11) (N := some 51) #[true, true, true, true, true, true, true, true, true, true, true, true, true, true, true, true, false, false, false] rfl rfl (by kernel_rfl) (by decide) (fun K hK => ?_)
  refine value_ (w1 := ?_) (v := ?_) (by rfl) rfl ?_ ?_
  rotate_left 2
  · go_simp
    constructor
    · rfl
    · rfl
  refine hK.out _ _ (G1.out _ HR3.out) (fun hHeld => ?_)
  clear hK K
  refine norm_ (a' := ?_) ?_ ?_
  rotate_left
  · show Act.put _ (some 51) _ = _
    simp only [Act.put, List.setIfInBounds_toArray, List.set_cons_zero, List.set_cons_succ, i64_w, i32_w]
    rfl
  refine pure_ (i := 16) (N := some 56) (v := ?_) (a' := ?_) #[true, true, true, true, true, true, true, true, true, true, true, true, true, true, true, true, true, false, false] rfl rfl (by kernel_rfl) (fun _ _ _ h => h) (Or.inl ⟨by rfl, ?_⟩) ?_ ?_
  rotate_left
  · intro w'
    go_simp
    with_reducible rfl
  rotate_left
  · simp only [Act.put, List.setIfInBounds_toArray, List.set_cons_zero, List.set_cons_succ, i64_w, i32_w]
    rfl
  refine pure_ (i := 17) (N := some 57) (v := ?_) (a' := ?_) #[true, true, true, true, true, true, true, true, true, true, true, true, true, true, true, true, true, true, false] rfl rfl (by kernel_rfl) (fun _ _ _ h => h) (Or.inl ⟨by rfl, ?_⟩) ?_ ?_
  rotate_left
  · intro w'
    go_simp
    with_reducible rfl
  rotate_left
  · simp only [Act.put, List.setIfInBounds_toArray, List.set_cons_zero, List.set_cons_succ, i64_w, i32_w]
    rfl
  refine pure_ (i := 18) (N := some 4) (v := ?_) (a' := ?_) #[true, true, true, true, true, true, true, true, true, true, true, true, true, true, true, true, true, true, true] rfl rfl (by kernel_rfl) (fun _ _ _ h => h) (Or.inl ⟨by rfl, ?_⟩) ?_ ?_
  rotate_left
  · intro w'
    go_simp
    with_reducible rfl
  rotate_left
  · simp only [Act.put, List.setIfInBounds_toArray, List.set_cons_zero, List.set_cons_succ, i64_w, i32_w]
    rfl
  refine done_ (by kernel_rfl) ?_
  go_wp2
  go_ret
  exact ⟨by simp, by repeat (first | exact HB3.out | apply pw_below_drewN | apply below_drew1)⟩
theorem CodecForms_walk (a0 : Option Addr) (len0 cap0 : Nat) (z0 : List Int) (a1 : Int) (w : World) (w0 : (a0 = none ∧ len0 = 0 ∧ cap0 = 0 ∧ z0 = []) ∨ ∃ x, a0 = some x ∧ len0 ≤ cap0 ∧ cap0 ≤ maxLen ∧ z0.length = cap0 ∧ (∀ i, i < z0.length → w.cell? (x.add i) = some (.int .u8 (z0.getD i 0))) ∧ ∀ n ∈ z0, (Lit.int .u8 n).wf = true) (y0 : len0 * 1 ≤ 140737488351232) (w1 : (Lit.int .u64 a1).wf = true) :
    Calls Try.prog 6 #[.slice a0 len0 cap0, .int .u64 a1] w fun e w' => e = .returned (.bool true) ∧ Below w.heap.size w w' := by
  obtain ⟨l0, rfl, hr0, hm0, hw0, hc0⟩ := ReadsInt.ofRowC w0
  have hb := bytes_of_wf hw0
  have hl : l0.length ≤ 140737488355328 := by omega
  have ha : 0 ≤ a1 ∧ a1 ≤ 18446744073709551615 := by simpa [Lit.wf, IntKind.min, IntKind.max, IntKind.signed, IntKind.bits] using w1
  have hr : Kd.C (Kd.int .u8) w a0 l0.length l0 := Kd.C_of_reads (d := (0 : Int)) (h1 := fun _ => rfl) hr0
  have p1 := PutVarint_eq 24 [] a1 ha.1 (by omega) (by simp) (by omega)
  rw [List.nil_append] at p1
  have p2 := Size_eq 24 a1 ha.1 (by omega) (by omega)
  have pl := enc_len a1
  obtain ⟨u, n, e, h3, hs⟩ := varint_some l0 0 hb hl
  rcases hs with ⟨rfl, u0, u1, _, n1, n2⟩ | ⟨e0, _, _, rfl, rfl⟩
  · have q1 := PutVarint_eq 24 [] u u0 u1 (by simp) (by omega)
    rw [List.nil_append] at q1
    obtain ⟨rfl, hq, hq2⟩ := Varint_was l0 u n hb h3
    exact CodecForms_good 24 a0 cap0 l0 a1 w hr hc0 hl (enc a1) pl.1 pl.2 p1 p2 u (enc u) h3 q1 hq (enc_len u).1 hq2
  · exact CodecForms_bad 24 a0 cap0 l0 a1 w hr hc0 (enc a1) pl.1 pl.2 p1 p2 e e0 h3

end Go.Proofs.Ytlfikdpcfoflfaa.G
