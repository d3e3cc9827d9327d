/- Contracts of functions and plain laws, several texts of the session put together by its program. -/
import Derived.Test.YtbhifenkfoddgaaProg
import Derived.Below
import Derived.Deep.Draws
import Derived.Deep.AppendLies
import Derived.Maps.AppendAt
import Derived.OwnWalk
import Derived.Laws.BytesArg
import Derived.Laws.MakeOwn
import Derived.Laws.OwnMore
import Derived.Deep.OwnRows
import Derived.Tactics
import Derived.Lib.ConvBytes
import Derived.Laws.Slices
import Derived.WalkKit
import Derived.KernelRfl
import Derived.RowKit3
import Derived.Deep.LoopGhost
import Derived.Deep.QuietTactic
import Derived.BigQuiet
import Derived.WideLaws
import Derived.Deep.DeepCutAuto
import Derived.Deep.CutBlock
import Derived.Deep.RegionHeld3
import Derived.Laws.Rows
import Derived.Lib.AppendStr
import Derived.ArgAppend
import Derived.Laws.IdiomCopy
import Derived.OrdersHeld
import Derived.Laws.BitsLemmas
import Derived.RowKit
import Derived.Test.YtbhifenkfoddgaaWVWords
import Derived.Test.YtbhifenkfoddgaaWVLast
import Derived.Test.YtbhifenkfoddgaaWVTab
import Derived.Test.YtbhifenkfoddgaaWVFour
import Derived.Test.YtbhifenkfoddgaaWVQPut
import Derived.Test.YtbhifenkfoddgaaWVApart
import Derived.Test.YtbhifenkfoddgaaWVArr
import Derived.Test.YtbhifenkfoddgaaWVZeros
import Derived.Test.YtbhifenkfoddgaaWVFoot
import Derived.Test.YtbhifenkfoddgaaWVKept
import Derived.Test.YtbhifenkfoddgaaWVShare
import Derived.Test.YtbhifenkfoddgaaWVN
import Derived.Test.YtbhifenkfoddgaaWVFootNe
import Derived.Test.YtbhifenkfoddgaaWVAt
import Derived.Test.YtbhifenkfoddgaaWVEqStruct
import Derived.Test.YtbhifenkfoddgaaWVRepsOne
import Derived.Test.YtbhifenkfoddgaaWVInv
import Derived.Test.YtbhifenkfoddgaaWVInvWords
import Derived.Test.YtbhifenkfoddgaaWVGuard
import Derived.Test.YtbhifenkfoddgaaWVNEv
import Derived.Test.YtbhifenkfoddgaaWVMore
import Derived.Test.YtbhifenkfoddgaaQ0

/- Contracts typed by hand: a block's Builder: Add -/
namespace Go.Proofs.Ytbhifenkfoddgaa.G
open Go.RowKit Go.Proofs.YtbhifenkfoddgaaW.PrintWords Go.Proofs.YtbhifenkfoddgaaW.PrintLast Go.Proofs.YtbhifenkfoddgaaW.PrintMore
attribute [local go_sem] max2_int min2_int max_two min_two max_three min_three max_four min_four
set_option linter.unusedVariables false
set_option linter.unusedSimpArgs false

/-! a block's Builder: Add -/
def sharedN : List Int → List Int → Nat
  | a :: x, b :: y => if a = b then sharedN x y + 1 else 0
  | _, _ => 0
theorem own_len (A : Option Addr) (n c m d : Nat) : (Value.slice A n c).ownBlock = (Value.slice A m d).ownBlock := by cases A <;> rfl
theorem sharedN_le : ∀ (a b : List Int), sharedN a b ≤ a.length ∧ sharedN a b ≤ b.length
  | [], _ => ⟨Nat.zero_le _, by cases ‹List Int› <;> simp [sharedN]⟩
  | _ :: _, [] => ⟨by simp [sharedN], by simp [sharedN]⟩
  | x :: a, y :: b => by
    have ih := sharedN_le a b
    unfold sharedN
    split <;> simp <;> omega
theorem shared_go (a b : List Int) (ha : a.length ≤ 1099511627776) : ∀ (d k i : Nat), a.length - i ≤ d → i ≤ a.length → i ≤ b.length → d + 1 ≤ k → block_shared.l0 k a b (i : Int) = some ((i + sharedN (a.drop i) (b.drop i) : Nat) : Int)
  | d, 0, _, _, _, _, h => absurd h (by omega)
  | d, k + 1, i, h1, h2, h3, h4 => by
    unfold block_shared.l0
    by_cases c1 : i < a.length
    · by_cases c2 : i < b.length
      · rw [if_pos (show (i : Int) < (a.length : Int) by omega), if_pos (show (i : Int) < (b.length : Int) by omega), if_pos (show (0 : Int) ≤ (i : Int) by omega)]
        have e1 : rd a (i : Int) = a[i] := by unfold rd; simp [c1]
        have e2 : rd b (i : Int) = b[i] := by unfold rd; simp [c2]
        rw [e1, e2, List.drop_eq_getElem_cons c1, List.drop_eq_getElem_cons c2]
        unfold sharedN
        by_cases c3 : a[i] = b[i]
        · rw [if_pos c3, if_pos c3, show wrap64 ((i : Int) + 1) = ((i + 1 : Nat) : Int) by unfold wrap64; omega]
          obtain ⟨d, rfl⟩ : ∃ e, d = e + 1 := ⟨d - 1, by omega⟩
          rw [shared_go a b ha d k (i + 1) (by omega) (by omega) (by omega) (by omega)]
          congr 2
          omega
        · rw [if_neg c3, if_neg c3]
          rfl
      · rw [if_pos (show (i : Int) < (a.length : Int) by omega), if_neg (show ¬ (i : Int) < (b.length : Int) by omega), List.drop_of_length_le (show b.length ≤ i by omega)]
        cases a.drop i <;> rfl
    · rw [if_neg (show ¬ (i : Int) < (a.length : Int) by omega), List.drop_of_length_le (show a.length ≤ i by omega)]
      cases b.drop i <;> rfl
theorem shared_eq (a b : List Int) (ha : a.length ≤ 1099511627776) (k : Nat) (hk : a.length + 1 ≤ k) : block_shared.f k a b = some ((sharedN a b : Nat) : Int) := by
  unfold block_shared.f
  have := shared_go a b ha a.length k 0 (by omega) (Nat.zero_le _) (Nat.zero_le _) hk
  rw [List.drop_zero, List.drop_zero, Nat.zero_add] at this
  exact this
/-- a Builder in memory -/
structure BuAt (W : World) (g base : Nat) (r s n : Int) (k : IK) (vk vb vp : Value) (key bytes places : List Int) : Prop where
  cell : W.heap[g]? = some (.cells #[.int .i64 r, .int .i64 s, .int .i64 n, .string k.1, .int .u64 k.2.1, .int .i64 k.2.2, vk, vb, vp] 45 (0, 0))
  key : Kd.R (Kd.int .u8) 5 W base (fun _ => True) vk key
  bytes : Kd.R (Kd.int .u8) 5 W base (fun _ => True) vb bytes
  places : Kd.R (Kd.int .i64) 3 W base (fun _ => True) vp places
  sep : ∀ q, vk.ownBlock = some q → vb.ownBlock ≠ some q
  gb : base ≤ g
  bw : base ≤ W.heap.size
theorem BuAt.below {W W1 : World} {g base : Nat} {r s n : Int} {k : IK} {vk vb vp : Value} {key bytes places : List Int} (h : BuAt W g base r s n k vk vb vp key bytes places) (hb : Below W.heap.size W W1) : BuAt W1 g base r s n k vk vb vp key bytes places :=
  ⟨blk_below h.cell hb, Kd.R_below h.key hb, Kd.R_below h.bytes hb, Kd.R_below h.places hb, h.sep, h.gb, Nat.le_trans h.bw hb.size⟩
/-- the blocks that are a Builder's own -/
def Own3 (g : Nat) (vk vb vp : Value) (q : Nat) : Prop := q = g ∨ vk.ownBlock = some q ∨ vb.ownBlock = some q ∨ vp.ownBlock = some q
theorem bu_none (g : Nat) (r : Int) (hr : r ≠ 0) (w : World) (h : w.cell? ⟨g, 0, none⟩ = some (.int .i64 r)) : Calls Try.prog 34 #[.pointer (some ⟨g, 0, none⟩)] w fun e w' => e = .returned (.bool false) ∧ w = w' := by
  have b0 : (r == 0) = false := by simpa using hr
  clear hr
  go_enter Try.func34, Try.ntmps34
  go_wp2
  go_ret
  exact ⟨rfl, rfl⟩
def putJ (bytes : List Int) (a b c : Int) : Nat → List Int
  | 0 => bytes
  | 1 => bytes ++ enc a
  | 2 => bytes ++ enc a ++ enc b
  | _ => bytes ++ enc a ++ enc b ++ enc c
theorem putJ_len (bytes : List Int) (a b c : Int) (j : Nat) : (putJ bytes a b c j).length ≤ bytes.length + 30 := by
  have q1 := (enc_len a).2
  have q2 := (enc_len b).2
  have q3 := (enc_len c).2
  rcases j with _ | _ | _ | j
  · show bytes.length ≤ _; omega
  · show (bytes ++ enc a).length ≤ _; rw [List.length_append]; omega
  · show (bytes ++ enc a ++ enc b).length ≤ _; rw [List.length_append, List.length_append]; omega
  · show (bytes ++ enc a ++ enc b ++ enc c).length ≤ _; rw [List.length_append, List.length_append, List.length_append]; omega
theorem idx0 (a b c : Value) : ∀ W : World, (Instr.index 76 (.agg #[a, b, c]) (.int .i64 0)).run Try.prog W = .ok a W := by
  intro W
  unfold Instr.index
  simp [go_sem, Try.underlying76, asIntOf]
theorem idx1 (a b c : Value) : ∀ W : World, (Instr.index 76 (.agg #[a, b, c]) (.int .i64 1)).run Try.prog W = .ok b W := by
  intro W
  unfold Instr.index
  simp [go_sem, Try.underlying76, asIntOf]
theorem idx2 (a b c : Value) : ∀ W : World, (Instr.index 76 (.agg #[a, b, c]) (.int .i64 2)).run Try.prog W = .ok c W := by
  intro W
  unfold Instr.index
  simp [go_sem, Try.underlying76, asIntOf]
/-- a key's bytes -/
def keyB (k : IK) : List Int := bytesOf k.1 ++ fixF 8 (k.2.1 * 256 + k.2.2)
/-- an entry's bytes -/
def entB (sh : Nat) (kl : List Int) (v : ByteArray) : List Int := enc (sh : Int) ++ (enc ((kl.length : Int) - (sh : Int)) ++ (enc (v.size : Int) ++ (kl.drop sh ++ bytesOf v)))
set_option maxHeartbeats 16000000 in
set_option maxRecDepth 100000 in
theorem bu_add_a (w : World) (g base : Nat) (r s n : Int) (k0s : ByteArray) (k0n k0d : Int) (Ak : Option Addr) (nk ck : Nat) (Ab : Option Addr) (nb cb : Nat) (Ap : Option Addr) (np cp : Nat) (key bytes places : List Int) (ks : ByteArray) (kn kd : Int) (v : ByteArray)
    (h : BuAt w g base r s n (k0s, k0n, k0d) (.slice Ak nk ck) (.slice Ab nb cb) (.slice Ap np cp) key bytes places) (hr : 1 ≤ r) (hkn : 0 ≤ kn) (hv : validOf ks kn kd = true) (hsz : v.size ≤ 65536) (hn0 : 0 ≤ n) (hn1 : n ≤ 1099511627776) (hs0 : 0 ≤ s) (hs1 : s ≤ 1099511627776) (hbl : bytes.length ≤ 1099511627776) (hpl : places.length ≤ 1099511627776) (hkl : key.length ≤ 1099511627776) (hn : n = 0) :
    Calls Try.prog 18 #[.pointer (some ⟨g, 0, none⟩), .agg #[.string ks, .int .u64 kn, .int .i64 kd], .string v] w fun e w' => ∃ vk' vb' vp', e = .returned (.int .i64 0) ∧ BuAt w' g base r 1 1 (ks, kn, kd) vk' vb' vp' (keyB (ks, kn, kd)) (bytes ++ entB 0 (keyB (ks, kn, kd)) v) (places ++ [(bytes.length : Int)]) ∧ Below base w w' ∧ Kept w w' (Own3 g (.slice Ak nk ck) (.slice Ab nb cb) (.slice Ap np cp)) := by
  have hvp := validOf_parts hv
  have hkl2 : (bytesOf ks ++ fixF 8 (kn * 256 + kd)).length = ks.size + 8 := by rw [List.length_append, bytesOf_length, fixF_len]
  have HEN := Aside0.mk (show ikey_Encode.f 16 ks kn kd = some (bytesOf ks ++ fixF 8 (kn * 256 + kd), 0) by rw [encode_eq 16 ks kn kd hkn (by omega)]; unfold encK; rw [if_pos hv])
  obtain ⟨kl, hkl3⟩ : ∃ l, bytesOf ks ++ fixF 8 (kn * 256 + kd) = l := ⟨_, rfl⟩
  rw [hkl3] at HEN hkl2
  have HKL := Aside0.mk hkl3
  obtain ⟨W0, hW0⟩ : ∃ W0, w.alloc (.cells #[.string ks, .int .u64 kn, .int .i64 kd] 28) = W0 := ⟨_, rfl⟩
  have hb0 : Below w.heap.size w W0 := by rw [← hW0]; exact below_alloc (Below.refl _ _) _
  have hx0 : W0.heap[w.heap.size]? = some (.cells #[.string ks, .int .u64 kn, .int .i64 kd] 28 (0, 0)) := by rw [← hW0]; exact blk_new w _
  have HX0 := Aside0.mk hx0
  have HB0 := Aside0.mk hb0
  have HBU := Aside0.mk (h.below hb0)
  have HW := Aside0.mk hW0
  have HGB := Aside0.mk h.gb
  have HBW := Aside0.mk h.bw
  have HNN := Aside0.mk (bu_none g r (by omega) W0 (by rw [← hW0]; exact (pw_cell_below hb0 ((blk_cell h.cell 0).trans rfl)) |> fun q => by rw [hW0]; exact q))
  have ck0 := (blk_cell hx0 0).trans (show _ = some (.string ks) from rfl)
  have ck1 := (blk_cell hx0 1).trans (show _ = some (.int .u64 kn) from rfl)
  have ck2 := (blk_cell hx0 2).trans (show _ = some (.int .i64 kd) from rfl)
  have d1 : decide ((v.size : Int) > 65536) = false := decide_eq_false (by omega)
  have d1' : decide (65536 < v.size) = false := decide_eq_false (by omega)
  have HSZ := Aside0.mk hsz
  have hks : ks.size ≤ 1024 := hvp.2.1
  obtain ⟨q4, hq4⟩ : ∃ q, w.heap.size = q := ⟨_, rfl⟩
  have HQ4 := Aside0.mk hq4
  clear h hW0 hb0 hx0 hv hvp hsz hkl3 hq4
  go_enter Try.func18, Try.ntmps18
  go_wp2_with fail
  rw [HW.out]
  (with_reducible refine HNN.out.mono ?_)
  rintro e w1 ⟨rfl, rfl⟩
  go_wp2_with fail
  (with_reducible refine (ikey_Encode.calls 16 ks kn kd kl 0 _ HEN.out).mono ?_)
  rintro e w2 ⟨v7, rfl, hr7, hb⟩
  obtain ⟨A7, c7, rfl, hc7, _⟩ := Kd.R_reads hr7
  obtain ⟨n7, hn7⟩ : ∃ n, kl.length = n := ⟨_, rfl⟩
  rw [hn7] at hr7 hc7 hkl2 ⊢
  have HN7 := Aside0.mk hn7
  have HC7 := Aside0.mk hc7
  have HKL2 := Aside0.mk (show n7 ≤ 1032 by omega)
  have HKL4 := Aside0.mk (show 8 ≤ n7 by omega)
  have hbu := HBU.out.below hb
  have h0s := HB0.out.size
  have HBS := Aside0.mk (show BS w w2 (Own3 g (.slice Ak nk ck) (.slice Ab nb cb) (.slice Ap np cp)) g base w.heap.size (ks, kn, kd) A7 n7 c7 kl #[.int .i64 r, .int .i64 s, .int .i64 n, .string k0s, .int .u64 k0n, .int .i64 k0d, (.slice Ak nk ck), (.slice Ab nb cb), (.slice Ap np cp)] (.slice Ak nk ck) (.slice Ab nb cb) (.slice Ap np cp) key bytes places from
    ⟨hbu.cell, hbu.key, hbu.bytes, hbu.places, hbu.sep, hbu.gb, HBW.out, (below_step HB0.out hb).mono HBW.out, Kept.of_below (below_step HB0.out hb) _, .inl (.inl rfl), fun q hq => .inl (.inr (.inl hq)), fun q hq => .inl (.inr (.inr (.inl hq))), fun q hq => .inl (.inr (.inr (.inr hq))), Kd.R_lower hr7 (Nat.le_trans HBW.out h0s),
      fun q hq => ⟨fun e => by have h1 := Kd.R_base hr7 q hq; have h2 := Kd.R_lt HBU.out.key q e; omega, fun e => by have h1 := Kd.R_base hr7 q hq; have h2 := Kd.R_lt HBU.out.bytes q e; omega⟩, blk_below HX0.out hb⟩)
  rw [HQ4.out] at HBS ⊢
  have hNb : nb = bytes.length := (Kd.R_reads' HBS.out.bytes).1
  have hNp : np = places.length := (Kd.R_reads' HBS.out.places).1
  have hNk : nk = key.length := (Kd.R_reads' HBS.out.key).1
  have HNB := Aside0.mk hNb
  have HNP := Aside0.mk hNp
  have HNK := Aside0.mk hNk
  rw [← hNb] at hbl
  rw [← hNp] at hpl
  rw [← hNk] at hkl
  clear ck0 ck1 ck2 hr7 hc7 hn7 hkl2 hks hb hbu h0s HX0 HBU HW HNN HEN hNb hNp hNk
  subst hn
  have p2 : w2.cell? ⟨g, 2, none⟩ = some (.int .i64 0) := (blk_cell HBS.out.cell 2).trans rfl
  have p3 : w2.cell? ⟨g, 3, none⟩ = some (.string k0s) := (blk_cell HBS.out.cell 3).trans rfl
  have p4 : w2.cell? ⟨g, 4, none⟩ = some (.int .u64 k0n) := (blk_cell HBS.out.cell 4).trans rfl
  have p5 : w2.cell? ⟨g, 5, none⟩ = some (.int .i64 k0d) := (blk_cell HBS.out.cell 5).trans rfl
  have p40 : w2.cell? ⟨q4, 0, none⟩ = some (.string ks) := (blk_cell HBS.out.box4 0).trans rfl
  have p41 : w2.cell? ⟨q4, 1, none⟩ = some (.int .u64 kn) := (blk_cell HBS.out.box4 1).trans rfl
  have p42 : w2.cell? ⟨q4, 2, none⟩ = some (.int .i64 kd) := (blk_cell HBS.out.box4 2).trans rfl
  go_wp2_with fail
  refine start_ (n := 14) (S := fun w' => w'.cell? ⟨g, 2, none⟩ = some (.int .i64 0) ∧ w'.cell? ⟨g, 3, none⟩ = some (.string k0s) ∧ w'.cell? ⟨g, 4, none⟩ = some (.int .u64 k0n) ∧ w'.cell? ⟨g, 5, none⟩ = some (.int .i64 k0d) ∧ w'.cell? ⟨q4, 0, none⟩ = some (.string ks) ∧ w'.cell? ⟨q4, 1, none⟩ = some (.int .u64 kn) ∧ w'.cell? ⟨q4, 2, none⟩ = some (.int .i64 kd)) (ds := []) #[false, false, false, false, false, false, false, false, false, false, false, false, false, false] (by kernel_rfl) rfl rfl ⟨p2, p3, p4, p5, p40, p41, p42⟩ (fun hHeld => ?_)
  refine pure_ (i := 0) (N := some 26) (v := ?_) (a' := ?_) #[true, false, false, false, false, false, false, false, false, false, false, false, false, false] rfl rfl (by kernel_rfl) (fun _ _ _ h => h) (Or.inl ⟨by rfl, ?_⟩) ?_ ?_
  rotate_left
  · intro w'
    go_simp
    with_reducible rfl
  rotate_left
  · simp only [Act.put, List.setIfInBounds_toArray, List.set_cons_zero, List.set_cons_succ, i64_w, i32_w]
    rfl
  refine pure_ (i := 1) (N := some 27) (v := ?_) (a' := ?_) #[true, true, false, false, false, false, false, false, false, false, false, false, false, false] rfl rfl (by kernel_rfl) (fun _ _ _ h => h) (Or.inl ⟨by rfl, ?_⟩) ?_ ?_
  rotate_left
  · intro w'
    go_simp
    with_reducible rfl
  rotate_left
  · simp only [Act.put, List.setIfInBounds_toArray, List.set_cons_zero, List.set_cons_succ, i64_w, i32_w]
    rfl
  refine pure_ (i := 2) (N := some 28) (v := ?_) (a' := ?_) #[true, true, true, false, false, false, false, false, false, false, false, false, false, false] rfl rfl (by kernel_rfl) (fun _ _ _ h => h) (Or.inl ⟨by rfl, ?_⟩) ?_ ?_
  rotate_left
  · intro w'
    go_simp
    with_reducible rfl
  rotate_left
  · simp only [Act.put, List.setIfInBounds_toArray, List.set_cons_zero, List.set_cons_succ, i64_w, i32_w]
    rfl
  refine take_ (i := 3) (N := some 29) (v := ?_) (a' := ?_) #[true, true, true, true, false, false, false, false, false, false, false, false, false, false] rfl rfl (by kernel_rfl) (fun _ _ _ h => h) (Or.inl ⟨by rfl, ?_⟩) hHeld ?_ ?_
  rotate_left
  · rintro w' ⟨s0, s1, s2, s3, s4, s5, s6⟩
    go_simp
    with_reducible rfl
  rotate_left
  · simp only [Act.put, List.setIfInBounds_toArray, List.set_cons_zero, List.set_cons_succ, i64_w, i32_w]
    rfl
  refine pure_ (i := 4) (N := some 30) (v := ?_) (a' := ?_) #[true, true, true, true, true, false, false, false, false, false, false, false, false, false] rfl rfl (by kernel_rfl) (fun _ _ _ h => h) (Or.inl ⟨by rfl, ?_⟩) ?_ ?_
  rotate_left
  · intro w'
    go_simp
    with_reducible rfl
  rotate_left
  · simp only [Act.put, List.setIfInBounds_toArray, List.set_cons_zero, List.set_cons_succ, i64_w, i32_w]
    rfl
  refine pure_ (i := 5) (N := some 31) (v := ?_) (a' := ?_) #[true, true, true, true, true, true, false, false, false, false, false, false, false, false] rfl rfl (by kernel_rfl) (fun _ _ _ h => h) (Or.inl ⟨by rfl, ?_⟩) ?_ ?_
  rotate_left
  · intro w'
    go_simp
    with_reducible rfl
  rotate_left
  · simp only [Act.put, List.setIfInBounds_toArray, List.set_cons_zero, List.set_cons_succ, i64_w, i32_w]
    rfl
  refine pure_ (i := 6) (N := some 32) (v := undef) (a' := ?_) #[true, true, true, true, true, true, true, false, false, false, false, false, false, false] rfl rfl (by kernel_rfl) (fun _ _ _ h => h) (Or.inr ⟨by rfl, rfl⟩) ?_ ?_
  rotate_left
  · simp only [Act.put, List.setIfInBounds_toArray, List.set_cons_zero, List.set_cons_succ, i64_w, i32_w]
    rfl
  refine pure_ (i := 7) (N := some 33) (v := undef) (a' := ?_) #[true, true, true, true, true, true, true, true, false, false, false, false, false, false] rfl rfl (by kernel_rfl) (fun _ _ _ h => h) (Or.inr ⟨by rfl, rfl⟩) ?_ ?_
  rotate_left
  · simp only [Act.put, List.setIfInBounds_toArray, List.set_cons_zero, List.set_cons_succ, i64_w, i32_w]
    rfl
  refine pure_ (i := 8) (N := some 34) (v := undef) (a' := ?_) #[true, true, true, true, true, true, true, true, true, false, false, false, false, false] rfl rfl (by kernel_rfl) (fun _ _ _ h => h) (Or.inr ⟨by rfl, rfl⟩) ?_ ?_
  rotate_left
  · simp only [Act.put, List.setIfInBounds_toArray, List.set_cons_zero, List.set_cons_succ, i64_w, i32_w]
    rfl
  refine pure_ (i := 9) (N := some 35) (v := undef) (a' := ?_) #[true, true, true, true, true, true, true, true, true, true, false, false, false, false] rfl rfl (by kernel_rfl) (fun _ _ _ h => h) (Or.inr ⟨by rfl, rfl⟩) ?_ ?_
  rotate_left
  · simp only [Act.put, List.setIfInBounds_toArray, List.set_cons_zero, List.set_cons_succ, i64_w, i32_w]
    rfl
  refine pure_ (i := 10) (N := some 36) (v := undef) (a' := ?_) #[true, true, true, true, true, true, true, true, true, true, true, false, false, false] rfl rfl (by kernel_rfl) (fun _ _ _ h => h) (Or.inr ⟨by rfl, rfl⟩) ?_ ?_
  rotate_left
  · simp only [Act.put, List.setIfInBounds_toArray, List.set_cons_zero, List.set_cons_succ, i64_w, i32_w]
    rfl
  refine pure_ (i := 11) (N := some 37) (v := undef) (a' := ?_) #[true, true, true, true, true, true, true, true, true, true, true, true, false, false] rfl rfl (by kernel_rfl) (fun _ _ _ h => h) (Or.inr ⟨by rfl, rfl⟩) ?_ ?_
  rotate_left
  · simp only [Act.put, List.setIfInBounds_toArray, List.set_cons_zero, List.set_cons_succ, i64_w, i32_w]
    rfl
  refine pure_ (i := 12) (N := some 38) (v := undef) (a' := ?_) #[true, true, true, true, true, true, true, true, true, true, true, true, true, false] rfl rfl (by kernel_rfl) (fun _ _ _ h => h) (Or.inr ⟨by rfl, rfl⟩) ?_ ?_
  rotate_left
  · simp only [Act.put, List.setIfInBounds_toArray, List.set_cons_zero, List.set_cons_succ, i64_w, i32_w]
    rfl
  refine pure_ (i := 13) (N := some 39) (v := ?_) (a' := ?_) #[true, true, true, true, true, true, true, true, true, true, true, true, true, true] rfl rfl (by kernel_rfl) (fun _ _ _ h => h) (Or.inl ⟨by rfl, ?_⟩) ?_ ?_
  rotate_left
  · intro w'
    go_simp
    with_reducible rfl
  rotate_left
  · simp only [Act.put, List.setIfInBounds_toArray, List.set_cons_zero, List.set_cons_succ, i64_w, i32_w]
    rfl
  refine done_ (by kernel_rfl) ?_
  clear p2 p3 p4 p5 p40 p41 p42 hHeld
  generalize hw3 : w2.drew = w3
  have HBS := Aside0.mk (show BS w w3 (Own3 g (.slice Ak nk ck) (.slice Ab nb cb) (.slice Ap np cp)) g base q4 (ks, kn, kd) A7 n7 c7 kl #[.int .i64 r, .int .i64 s, .int .i64 0, .string k0s, .int .u64 k0n, .int .i64 k0d, (.slice Ak nk ck), (.slice Ab nb cb), (.slice Ap np cp)] (.slice Ak nk ck) (.slice Ab nb cb) (.slice Ap np cp) key bytes places by rw [← hw3]; exact HBS.out.later (below_drew1 (Below.refl _ _)))
  clear hw3
  have p2 : w3.cell? ⟨g, 2, none⟩ = some (.int .i64 0) := (blk_cell HBS.out.cell 2).trans rfl
  have p1 : w3.cell? ⟨g, 1, none⟩ = some (.int .i64 s) := (blk_cell HBS.out.cell 1).trans rfl
  have p0 : w3.cell? ⟨g, 0, none⟩ = some (.int .i64 r) := (blk_cell HBS.out.cell 0).trans rfl
  go_wp2_with fail
  refine start_ (n := 16) (S := fun w' => w'.cell? ⟨g, 2, none⟩ = some (.int .i64 0) ∧ w'.cell? ⟨g, 1, none⟩ = some (.int .i64 s) ∧ w'.cell? ⟨g, 0, none⟩ = some (.int .i64 r)) (ds := []) #[false, false, false, false, false, false, false, false, false, false, false, false, false, false, false, false] (by kernel_rfl) rfl rfl ⟨p2, p1, p0⟩ (fun hHeld => ?_)
  refine pure_ (i := 0) (N := some 40) (v := ?_) (a' := ?_) #[true, false, false, false, false, false, false, false, false, false, false, false, false, false, false, false] rfl rfl (by kernel_rfl) (fun _ _ _ h => h) (Or.inl ⟨by rfl, ?_⟩) ?_ ?_
  rotate_left
  · intro w'
    go_simp
    with_reducible rfl
  rotate_left
  · simp only [Act.put, List.setIfInBounds_toArray, List.set_cons_zero, List.set_cons_succ, i64_w, i32_w]
    rfl
  refine pure_ (i := 1) (N := some 41) (v := ?_) (a' := ?_) #[true, true, false, false, false, false, false, false, false, false, false, false, false, false, false, false] rfl rfl (by kernel_rfl) (fun _ _ _ h => h) (Or.inl ⟨by rfl, ?_⟩) ?_ ?_
  rotate_left
  · intro w'
    go_simp
    with_reducible rfl
  rotate_left
  · simp only [Act.put, List.setIfInBounds_toArray, List.set_cons_zero, List.set_cons_succ, i64_w, i32_w]
    rfl
  refine pure_ (i := 2) (N := some 42) (v := ?_) (a' := ?_) #[true, true, true, false, false, false, false, false, false, false, false, false, false, false, false, false] rfl rfl (by kernel_rfl) (fun _ _ _ h => h) (Or.inl ⟨by rfl, ?_⟩) ?_ ?_
  rotate_left
  · intro w'
    go_simp
    with_reducible rfl
  rotate_left
  · simp only [Act.put, List.setIfInBounds_toArray, List.set_cons_zero, List.set_cons_succ, i64_w, i32_w]
    rfl
  refine take_ (i := 3) (N := some 43) (v := ?_) (a' := ?_) #[true, true, true, true, false, false, false, false, false, false, false, false, false, false, false, false] rfl rfl (by kernel_rfl) (fun _ _ _ h => h) (Or.inl ⟨by rfl, ?_⟩) hHeld ?_ ?_
  rotate_left
  · rintro w' ⟨s0, s1, s2⟩
    go_simp
    with_reducible rfl
  rotate_left
  · simp only [Act.put, List.setIfInBounds_toArray, List.set_cons_zero, List.set_cons_succ, i64_w, i32_w]
    rfl
  refine pure_ (i := 4) (N := some 44) (v := ?_) (a' := ?_) #[true, true, true, true, true, false, false, false, false, false, false, false, false, false, false, false] rfl rfl (by kernel_rfl) (fun _ _ _ h => h) (Or.inl ⟨by rfl, ?_⟩) ?_ ?_
  rotate_left
  · intro w'
    go_simp
    with_reducible rfl
  rotate_left
  · simp only [Act.put, List.setIfInBounds_toArray, List.set_cons_zero, List.set_cons_succ, i64_w, i32_w]
    rfl
  refine pure_ (i := 5) (N := some 45) (v := ?_) (a' := ?_) #[true, true, true, true, true, true, false, false, false, false, false, false, false, false, false, false] rfl rfl (by kernel_rfl) (fun _ _ _ h => h) (Or.inl ⟨by rfl, ?_⟩) ?_ ?_
  rotate_left
  · intro w'
    go_simp
    with_reducible rfl
  rotate_left
  · simp only [Act.put, List.setIfInBounds_toArray, List.set_cons_zero, List.set_cons_succ, i64_w, i32_w]
    rfl
  refine pure_ (i := 6) (N := some 46) (v := undef) (a' := ?_) #[true, true, true, true, true, true, true, false, false, false, false, false, false, false, false, false] rfl rfl (by kernel_rfl) (fun _ _ _ h => h) (Or.inr ⟨by rfl, rfl⟩) ?_ ?_
  rotate_left
  · simp only [Act.put, List.setIfInBounds_toArray, List.set_cons_zero, List.set_cons_succ, i64_w, i32_w]
    rfl
  refine pure_ (i := 7) (N := some 47) (v := undef) (a' := ?_) #[true, true, true, true, true, true, true, true, false, false, false, false, false, false, false, false] rfl rfl (by kernel_rfl) (fun _ _ _ h => h) (Or.inr ⟨by rfl, rfl⟩) ?_ ?_
  rotate_left
  · simp only [Act.put, List.setIfInBounds_toArray, List.set_cons_zero, List.set_cons_succ, i64_w, i32_w]
    rfl
  refine pure_ (i := 8) (N := some 48) (v := undef) (a' := ?_) #[true, true, true, true, true, true, true, true, true, false, false, false, false, false, false, false] rfl rfl (by kernel_rfl) (fun _ _ _ h => h) (Or.inr ⟨by rfl, rfl⟩) ?_ ?_
  rotate_left
  · simp only [Act.put, List.setIfInBounds_toArray, List.set_cons_zero, List.set_cons_succ, i64_w, i32_w]
    rfl
  refine pure_ (i := 9) (N := some 49) (v := undef) (a' := ?_) #[true, true, true, true, true, true, true, true, true, true, false, false, false, false, false, false] rfl rfl (by kernel_rfl) (fun _ _ _ h => h) (Or.inr ⟨by rfl, rfl⟩) ?_ ?_
  rotate_left
  · simp only [Act.put, List.setIfInBounds_toArray, List.set_cons_zero, List.set_cons_succ, i64_w, i32_w]
    rfl
  refine pure_ (i := 10) (N := some 50) (v := undef) (a' := ?_) #[true, true, true, true, true, true, true, true, true, true, true, false, false, false, false, false] rfl rfl (by kernel_rfl) (fun _ _ _ h => h) (Or.inr ⟨by rfl, rfl⟩) ?_ ?_
  rotate_left
  · simp only [Act.put, List.setIfInBounds_toArray, List.set_cons_zero, List.set_cons_succ, i64_w, i32_w]
    rfl
  refine pure_ (i := 11) (N := some 51) (v := undef) (a' := ?_) #[true, true, true, true, true, true, true, true, true, true, true, true, false, false, false, false] rfl rfl (by kernel_rfl) (fun _ _ _ h => h) (Or.inr ⟨by rfl, rfl⟩) ?_ ?_
  rotate_left
  · simp only [Act.put, List.setIfInBounds_toArray, List.set_cons_zero, List.set_cons_succ, i64_w, i32_w]
    rfl
  refine pure_ (i := 12) (N := some 52) (v := undef) (a' := ?_) #[true, true, true, true, true, true, true, true, true, true, true, true, true, false, false, false] rfl rfl (by kernel_rfl) (fun _ _ _ h => h) (Or.inr ⟨by rfl, rfl⟩) ?_ ?_
  rotate_left
  · simp only [Act.put, List.setIfInBounds_toArray, List.set_cons_zero, List.set_cons_succ, i64_w, i32_w]
    rfl
  refine pure_ (i := 13) (N := some 53) (v := undef) (a' := ?_) #[true, true, true, true, true, true, true, true, true, true, true, true, true, true, false, false] rfl rfl (by kernel_rfl) (fun _ _ _ h => h) (Or.inr ⟨by rfl, rfl⟩) ?_ ?_
  rotate_left
  · simp only [Act.put, List.setIfInBounds_toArray, List.set_cons_zero, List.set_cons_succ, i64_w, i32_w]
    rfl
  refine pure_ (i := 14) (N := some 54) (v := undef) (a' := ?_) #[true, true, true, true, true, true, true, true, true, true, true, true, true, true, true, false] rfl rfl (by kernel_rfl) (fun _ _ _ h => h) (Or.inr ⟨by rfl, rfl⟩) ?_ ?_
  rotate_left
  · simp only [Act.put, List.setIfInBounds_toArray, List.set_cons_zero, List.set_cons_succ, i64_w, i32_w]
    rfl
  refine pure_ (i := 15) (N := some 55) (v := ?_) (a' := ?_) #[true, true, true, true, true, true, true, true, true, true, true, true, true, true, true, true] rfl rfl (by kernel_rfl) (fun _ _ _ h => h) (Or.inl ⟨by rfl, ?_⟩) ?_ ?_
  rotate_left
  · intro w'
    go_simp
    with_reducible rfl
  rotate_left
  · simp only [Act.put, List.setIfInBounds_toArray, List.set_cons_zero, List.set_cons_succ, i64_w, i32_w]
    rfl
  refine done_ (by kernel_rfl) ?_
  clear p2 p1 p0 hHeld
  generalize hw4 : w3.drew = w4
  have HBS := Aside0.mk (show BS w w4 (Own3 g (.slice Ak nk ck) (.slice Ab nb cb) (.slice Ap np cp)) g base q4 (ks, kn, kd) A7 n7 c7 kl #[.int .i64 r, .int .i64 s, .int .i64 0, .string k0s, .int .u64 k0n, .int .i64 k0d, (.slice Ak nk ck), (.slice Ab nb cb), (.slice Ap np cp)] (.slice Ak nk ck) (.slice Ab nb cb) (.slice Ap np cp) key bytes places by rw [← hw4]; exact HBS.out.later (below_drew1 (Below.refl _ _)))
  clear hw4
  have p8 : w4.cell? ⟨g, 8, none⟩ = some (.slice Ap np cp) := (blk_cell HBS.out.cell 8).trans rfl
  have p7 : w4.cell? ⟨g, 7, none⟩ = some (.slice Ab nb cb) := (blk_cell HBS.out.cell 7).trans rfl
  have HI := Aside0.mk (show (Try.prog.info? 3).map (fun i => (i.zero, i.size, i.bytes)) = some (some (.int .i64 0), 1, 8) from by kernel_rfl)
  go_wp2_with fail
  refine start_ (n := 15) (S := fun w' => w'.cell? ⟨g, 8, none⟩ = some (.slice Ap np cp) ∧ w'.cell? ⟨g, 7, none⟩ = some (.slice Ab nb cb)) (ds := [14]) #[false, false, false, false, false, false, false, false, false, false, false, false, false, false, false] (by kernel_rfl) rfl rfl ⟨p8, p7⟩ (fun hHeld => ?_)
  refine pure_ (i := 0) (N := some 56) (v := ?_) (a' := ?_) #[true, false, false, false, false, false, false, false, false, false, false, false, false, false, false] rfl rfl (by kernel_rfl) (fun _ _ _ h => h) (Or.inl ⟨by rfl, ?_⟩) ?_ ?_
  rotate_left
  · intro w'
    go_simp
    with_reducible rfl
  rotate_left
  · simp only [Act.put, List.setIfInBounds_toArray, List.set_cons_zero, List.set_cons_succ, i64_w, i32_w]
    rfl
  refine pure_ (i := 1) (N := some 57) (v := ?_) (a' := ?_) #[true, true, false, false, false, false, false, false, false, false, false, false, false, false, false] rfl rfl (by kernel_rfl) (fun _ _ _ h => h) (Or.inl ⟨by rfl, ?_⟩) ?_ ?_
  rotate_left
  · intro w'
    go_simp
    with_reducible rfl
  rotate_left
  · simp only [Act.put, List.setIfInBounds_toArray, List.set_cons_zero, List.set_cons_succ, i64_w, i32_w]
    rfl
  refine pure_ (i := 2) (N := some 58) (v := ?_) (a' := ?_) #[true, true, true, false, false, false, false, false, false, false, false, false, false, false, false] rfl rfl (by kernel_rfl) (fun _ _ _ h => h) (Or.inl ⟨by rfl, ?_⟩) ?_ ?_
  rotate_left
  · intro w'
    go_simp
    with_reducible rfl
  rotate_left
  · simp only [Act.put, List.setIfInBounds_toArray, List.set_cons_zero, List.set_cons_succ, i64_w, i32_w]
    rfl
  refine pure_ (i := 3) (N := some 59) (v := ?_) (a' := ?_) #[true, true, true, true, false, false, false, false, false, false, false, false, false, false, false] rfl rfl (by kernel_rfl) (fun _ _ _ h => h) (Or.inl ⟨by rfl, ?_⟩) ?_ ?_
  rotate_left
  · intro w'
    go_simp
    with_reducible rfl
  rotate_left
  · simp only [Act.put, List.setIfInBounds_toArray, List.set_cons_zero, List.set_cons_succ, i64_w, i32_w]
    rfl
  refine pure_ (i := 5) (N := some 61) (v := ?_) (a' := ?_) #[true, true, true, true, false, true, false, false, false, false, false, false, false, false, false] rfl rfl (by kernel_rfl) (fun _ _ _ h => h) (Or.inl ⟨by rfl, ?_⟩) ?_ ?_
  rotate_left
  · intro w'
    go_simp
    with_reducible rfl
  rotate_left
  · simp only [Act.put, List.setIfInBounds_toArray, List.set_cons_zero, List.set_cons_succ, i64_w, i32_w]
    rfl
  refine pure_ (i := 6) (N := some 62) (v := ?_) (a' := ?_) #[true, true, true, true, false, true, true, false, false, false, false, false, false, false, false] rfl rfl (by kernel_rfl) (fun _ _ _ h => h) (Or.inl ⟨by rfl, ?_⟩) ?_ ?_
  rotate_left
  · intro w'
    go_simp
    with_reducible rfl
  rotate_left
  · simp only [Act.put, List.setIfInBounds_toArray, List.set_cons_zero, List.set_cons_succ, i64_w, i32_w]
    rfl
  refine pure_ (i := 7) (N := some 63) (v := ?_) (a' := ?_) #[true, true, true, true, false, true, true, true, false, false, false, false, false, false, false] rfl rfl (by kernel_rfl) (fun _ _ _ h => h) (Or.inl ⟨by rfl, ?_⟩) ?_ ?_
  rotate_left
  · intro w'
    go_simp
    with_reducible rfl
  rotate_left
  · simp only [Act.put, List.setIfInBounds_toArray, List.set_cons_zero, List.set_cons_succ, i64_w, i32_w]
    rfl
  refine take_ (i := 4) (N := some 60) (v := ?_) (a' := ?_) #[true, true, true, true, true, true, true, true, false, false, false, false, false, false, false] rfl rfl (by kernel_rfl) (fun _ _ _ h => h) (Or.inl ⟨by rfl, ?_⟩) hHeld ?_ ?_
  rotate_left
  · rintro w' ⟨s0, s1⟩
    go_simp
    with_reducible rfl
  rotate_left
  · simp only [Act.put, List.setIfInBounds_toArray, List.set_cons_zero, List.set_cons_succ, i64_w, i32_w]
    rfl
  refine take_ (i := 8) (N := some 64) (v := ?_) (a' := ?_) #[true, true, true, true, true, true, true, true, true, false, false, false, false, false, false] rfl rfl (by kernel_rfl) (fun _ _ _ h => h) (Or.inl ⟨by rfl, ?_⟩) hHeld ?_ ?_
  rotate_left
  · rintro w' ⟨s0, s1⟩
    go_simp
    with_reducible rfl
  rotate_left
  · simp only [Act.put, List.setIfInBounds_toArray, List.set_cons_zero, List.set_cons_succ, i64_w, i32_w]
    rfl
  refine pure_ (i := 9) (N := some 65) (v := ?_) (a' := ?_) #[true, true, true, true, true, true, true, true, true, true, false, false, false, false, false] rfl rfl (by kernel_rfl) (fun _ _ _ h => h) (Or.inl ⟨by rfl, ?_⟩) ?_ ?_
  rotate_left
  · intro w'
    go_simp
    with_reducible rfl
  rotate_left
  · simp only [Act.put, List.setIfInBounds_toArray, List.set_cons_zero, List.set_cons_succ, i64_w, i32_w]
    rfl
  refine one_ (i := 10) (N := some 66) #[true, true, true, true, true, true, true, true, true, true, true, false, false, false, false] rfl rfl (by kernel_rfl) (by decide) (fun K hK => ?_)
  refine value_ (w1 := ?_) (v := ?_) (by rfl) rfl ?_ ?_
  rotate_left 2
  · go_simp
    constructor
    · rfl
    · rfl
  refine hK.out _ _ ⟨(pw_cell_below (below_alloc (Below.refl _ _) _) p8), (pw_cell_below (below_alloc (Below.refl _ _) _) p7)⟩ (fun hHeld => ?_)
  clear hK K
  refine norm_ (a' := ?_) ?_ ?_
  rotate_left
  · show Act.put _ (some 66) _ = _
    simp only [Act.put, List.setIfInBounds_toArray, List.set_cons_zero, List.set_cons_succ, i64_w, i32_w]
    rfl
  refine one_ (i := 11) (N := some 67) #[true, true, true, true, true, true, true, true, true, true, true, true, false, false, false] rfl rfl (by kernel_rfl) (by decide) (fun K hK => ?_)
  refine Kd.R_append_step (Kd.int .i64) (w0 := w) (W := w4.drew) base (by rfl) (.tmp 60) (.tmp 66) 43 3 (.int .i64 0) 8 rfl Try.underlying43 HI.out rfl (by decide) (by decide) (.slice Ap np cp) places (nb : Int) [.int .i64 (nb : Int)] (fun _ => True) (fun _ => False) rfl rfl rfl (fun q hq => hq.elim) (fun _ _ => trivial) (HBS.out.later (below_drew1 (Below.refl _ _))).places (HBS.out.later (below_drew1 (Below.refl _ _))).below (by have h1 := HBS.out.bw; have h2 := HBS.out.kept.1; exact Nat.le_trans h1 h2) (by have := HNP.out; omega) ?_
  intro v1 w5 ho hb hg hat
  obtain ⟨b2, c2, rfl, _, _, _⟩ := Kd.R_form ho (by simp)
  obtain ⟨np1, hnp1⟩ : ∃ x, (places ++ [(nb : Int)]).length = x := ⟨_, rfl⟩
  rw [hnp1] at ho hat ⊢
  have HBS5 := Aside0.mk (show BS w w5 (Own3 g (.slice Ak nk ck) (.slice Ab nb cb) (.slice Ap np cp)) g base q4 (ks, kn, kd) A7 n7 c7 kl #[.int .i64 r, .int .i64 s, .int .i64 0, .string k0s, .int .u64 k0n, .int .i64 k0d, (.slice Ak nk ck), (.slice Ab nb cb), (.slice Ap np cp)] (.slice Ak nk ck) (.slice Ab nb cb) (.slice (some ⟨b2, 0, none⟩) np1 c2) key bytes (places ++ [(nb : Int)]) from (HBS.out.later (below_drew1 (Below.refl _ _))).grownP hg ho hat)
  have t8 : w5.cell? ⟨g, 8, none⟩ = some (.slice Ap np cp) := (blk_cell HBS5.out.cell 8).trans rfl
  have t7 : w5.cell? ⟨g, 7, none⟩ = some (.slice Ab nb cb) := (blk_cell HBS5.out.cell 7).trans rfl
  have f8 := blk_frozen HBS5.out.cell 8
  clear ho hb hg hat hnp1
  refine hK.out _ _ ⟨t8, t7⟩ (fun hHeld => ?_)
  clear hK K
  refine norm_ (a' := ?_) ?_ ?_
  rotate_left
  · show Act.put _ (some 67) _ = _
    simp only [Act.put, List.setIfInBounds_toArray, List.set_cons_zero, List.set_cons_succ, i64_w, i32_w]
    rfl
  refine pure_ (i := 12) (N := some 68) (v := ?_) (a' := ?_) #[true, true, true, true, true, true, true, true, true, true, true, true, true, false, false] rfl rfl (by kernel_rfl) (fun _ _ _ h => h) (Or.inl ⟨by rfl, ?_⟩) ?_ ?_
  rotate_left
  · intro w'
    go_simp
    with_reducible rfl
  rotate_left
  · simp only [Act.put, List.setIfInBounds_toArray, List.set_cons_zero, List.set_cons_succ, i64_w, i32_w]
    rfl
  refine pure_ (i := 13) (N := some 69) (v := ?_) (a' := ?_) #[true, true, true, true, true, true, true, true, true, true, true, true, true, true, false] rfl rfl (by kernel_rfl) (fun _ _ _ h => h) (Or.inl ⟨by rfl, ?_⟩) ?_ ?_
  rotate_left
  · intro w'
    go_simp
    with_reducible rfl
  rotate_left
  · simp only [Act.put, List.setIfInBounds_toArray, List.set_cons_zero, List.set_cons_succ, i64_w, i32_w]
    rfl
  refine last_ (i := 14) (N := none) #[true, true, true, true, true, true, true, true, true, true, true, true, true, true, true] rfl rfl (by kernel_rfl) (by decide) (fun K hK => ?_)
  refine skip_ (w1 := ?_) (by rfl) rfl ?_ ?_
  rotate_left
  · go_simp
    rfl
  generalize hW6 : w5.setCell _ _ = w6
  have HBS6 := Aside0.mk (show BS w w6 (Own3 g (.slice Ak nk ck) (.slice Ab nb cb) (.slice Ap np cp)) g base q4 (ks, kn, kd) A7 n7 c7 kl #[.int .i64 r, .int .i64 s, .int .i64 0, .string k0s, .int .u64 k0n, .int .i64 k0d, (.slice Ak nk ck), (.slice Ab nb cb), (.slice (some ⟨b2, 0, none⟩) np1 c2)] (.slice Ak nk ck) (.slice Ab nb cb) (.slice (some ⟨b2, 0, none⟩) np1 c2) key bytes (places ++ [(nb : Int)]) by rw [← hW6]; exact HBS5.out.put 8 _)
  clear hW6
  refine hK.out _ _ ?_
  clear hK K
  refine done_ (by kernel_rfl) ?_
  have HBS := HBS6
  clear p8 p7 hHeld HBS5 HBS6 t8 t7 f8 HI
  have p1 : w6.cell? ⟨g, 1, none⟩ = some (.int .i64 s) := (blk_cell HBS.out.cell 1).trans rfl
  have f1 := blk_frozen HBS.out.cell 1
  have hn71 : n7 ≤ 1032 := HKL2.out
  go_wp2_with fail
  generalize hW7 : w6.setCell _ _ = w7
  have HBS := Aside0.mk (show BS w w7 (Own3 g (.slice Ak nk ck) (.slice Ab nb cb) (.slice Ap np cp)) g base q4 (ks, kn, kd) A7 n7 c7 kl #[.int .i64 r, .int .i64 0, .int .i64 0, .string k0s, .int .u64 k0n, .int .i64 k0d, (.slice Ak nk ck), (.slice Ab nb cb), (.slice (some ⟨b2, 0, none⟩) np1 c2)] (.slice Ak nk ck) (.slice Ab nb cb) (.slice (some ⟨b2, 0, none⟩) np1 c2) key bytes (places ++ [(nb : Int)]) by rw [← hW7]; exact HBS.out.put 1 _)
  clear hW7 p1 f1
  have HI := Aside0.mk (show (Try.prog.info? 5).map (fun i => (i.zero, i.size, i.bytes)) = some (some (.int .u8 0), 1, 1) from by kernel_rfl)
  go_loopg [87] 4 (fun kq v87 wr => ∃ (j : Nat) (A1 : Option Addr) (n1 c1 : Nat), v87 = .int .i64 (j : Int) ∧ j ≤ 3 ∧ 3 - j < kq ∧ Aside0 (BS w wr (Own3 g (.slice Ak nk ck) (.slice Ab nb cb) (.slice Ap np cp)) g base q4 (ks, kn, kd) A7 n7 c7 kl #[.int .i64 r, .int .i64 0, .int .i64 0, .string k0s, .int .u64 k0n, .int .i64 k0d, (.slice Ak nk ck), (.slice A1 n1 c1), (.slice (some ⟨b2, 0, none⟩) np1 c2)] (.slice Ak nk ck) (.slice A1 n1 c1) (.slice (some ⟨b2, 0, none⟩) np1 c2) key (putJ bytes 0 (n7 : Int) (v.size : Int) j) (places ++ [(nb : Int)])))
  case atStart => exact ⟨0, Ab, nb, cb, rfl, by omega, by omega, ⟨HBS.out⟩⟩
  case round =>
    clear HBS
    obtain ⟨j, A1, n1, c1, rfl, hj3, hkq, HBS⟩ := hrel
    cases gk with
    | zero => omega
    | succ gk1 =>
    have HN1 := Aside0.mk (Kd.R_reads' HBS.out.bytes).1
    have HC1 := Aside0.mk (Kd.R_reads' HBS.out.bytes).2
    have HL1 := Aside0.mk (show (putJ bytes 0 (n7 : Int) (v.size : Int) j).length ≤ nb + 30 by have h1 := putJ_len bytes 0 (n7 : Int) (v.size : Int) j; have h2 := HNB.out; omega)
    by_cases hj0 : j = 0
    · subst hj0
      rw [show ((0 : Nat) : Int) = 0 from rfl]
      have p7 : wr.cell? ⟨g, 7, none⟩ = some (.slice A1 n1 c1) := (blk_cell HBS.out.cell 7).trans rfl
      have hu : IntKind.u64.wrap 0 = 0 := by rw [Go.IntKind.wrap_u64]; omega
      have hix := idx0 (.int .i64 0) (.int .i64 (n7 : Int)) (.int .i64 (v.size : Int))
      have HPV := Aside0.mk (codec_PutVarint.calls 16 A1 c1 (putJ bytes 0 (n7 : Int) (v.size : Int) 0) 0 (putJ bytes 0 (n7 : Int) (v.size : Int) 1) wr HC1.out.2 (by have h1 := HC1.out.1; have h2 := HN1.out; omega) (PutVarint_eq 16 _ 0 (by omega) (by have := HSZ.out; omega) (by have := HL1.out; omega) (by omega)))
      rw [← HN1.out] at HPV
      have HKQ := Aside0.mk hkq
      clear hkq hj3
      go_wp2_with fail
      (with_reducible refine HPV.out.mono ?_)
      rintro e wx ⟨v', rfl, hr', hb'⟩
      obtain ⟨A2, c2', rfl, _, _⟩ := Kd.R_reads hr'
      obtain ⟨n2, hn2⟩ : ∃ x, (putJ bytes 0 (n7 : Int) (v.size : Int) 1).length = x := ⟨_, rfl⟩
      rw [hn2] at hr' ⊢
      have p7x : wx.cell? ⟨g, 7, none⟩ = some (.slice A1 n1 c1) := (blk_cell (HBS.out.later hb').cell 7).trans rfl
      have f7x := blk_frozen (HBS.out.later hb').cell 7
      have HBX := Aside0.mk (HBS.out.newB hb' hr')
      clear hr' hb' hn2 p7 HPV hu hix
      go_wp2
      generalize hWY : wx.setCell _ _ = wy
      have HBY := Aside0.mk (show BS w wy (Own3 g (.slice Ak nk ck) (.slice Ab nb cb) (.slice Ap np cp)) g base q4 (ks, kn, kd) A7 n7 c7 kl #[.int .i64 r, .int .i64 0, .int .i64 0, .string k0s, .int .u64 k0n, .int .i64 k0d, (.slice Ak nk ck), (.slice A2 n2 c2'), (.slice (some ⟨b2, 0, none⟩) np1 c2)] (.slice Ak nk ck) (.slice A2 n2 c2') (.slice (some ⟨b2, 0, none⟩) np1 c2) key (putJ bytes 0 (n7 : Int) (v.size : Int) 1) (places ++ [(nb : Int)]) by rw [← hWY]; exact HBX.out.put 7 _)
      clear hWY
      go_roundg gk1
      case measure => have := HKQ.out; omega
      case rel => exact ⟨1, A2, n2, c2', rfl, by omega, by have := HKQ.out; omega, HBY⟩
    by_cases hj1 : j = 1
    · subst hj1
      rw [show ((1 : Nat) : Int) = 1 from rfl]
      have p7 : wr.cell? ⟨g, 7, none⟩ = some (.slice A1 n1 c1) := (blk_cell HBS.out.cell 7).trans rfl
      have hu : IntKind.u64.wrap (n7 : Int) = (n7 : Int) := by rw [Go.IntKind.wrap_u64]; omega
      have hix := idx1 (.int .i64 0) (.int .i64 (n7 : Int)) (.int .i64 (v.size : Int))
      have HPV := Aside0.mk (codec_PutVarint.calls 16 A1 c1 (putJ bytes 0 (n7 : Int) (v.size : Int) 1) (n7 : Int) (putJ bytes 0 (n7 : Int) (v.size : Int) 2) wr HC1.out.2 (by have h1 := HC1.out.1; have h2 := HN1.out; omega) (PutVarint_eq 16 _ (n7 : Int) (by omega) (by have := HSZ.out; omega) (by have := HL1.out; omega) (by omega)))
      rw [← HN1.out] at HPV
      have HKQ := Aside0.mk hkq
      clear hkq hj3 hj0
      go_wp2_with fail
      (with_reducible refine HPV.out.mono ?_)
      rintro e wx ⟨v', rfl, hr', hb'⟩
      obtain ⟨A2, c2', rfl, _, _⟩ := Kd.R_reads hr'
      obtain ⟨n2, hn2⟩ : ∃ x, (putJ bytes 0 (n7 : Int) (v.size : Int) 2).length = x := ⟨_, rfl⟩
      rw [hn2] at hr' ⊢
      have p7x : wx.cell? ⟨g, 7, none⟩ = some (.slice A1 n1 c1) := (blk_cell (HBS.out.later hb').cell 7).trans rfl
      have f7x := blk_frozen (HBS.out.later hb').cell 7
      have HBX := Aside0.mk (HBS.out.newB hb' hr')
      clear hr' hb' hn2 p7 HPV hu hix
      go_wp2
      generalize hWY : wx.setCell _ _ = wy
      have HBY := Aside0.mk (show BS w wy (Own3 g (.slice Ak nk ck) (.slice Ab nb cb) (.slice Ap np cp)) g base q4 (ks, kn, kd) A7 n7 c7 kl #[.int .i64 r, .int .i64 0, .int .i64 0, .string k0s, .int .u64 k0n, .int .i64 k0d, (.slice Ak nk ck), (.slice A2 n2 c2'), (.slice (some ⟨b2, 0, none⟩) np1 c2)] (.slice Ak nk ck) (.slice A2 n2 c2') (.slice (some ⟨b2, 0, none⟩) np1 c2) key (putJ bytes 0 (n7 : Int) (v.size : Int) 2) (places ++ [(nb : Int)]) by rw [← hWY]; exact HBX.out.put 7 _)
      clear hWY
      go_roundg gk1
      case measure => have := HKQ.out; omega
      case rel => exact ⟨2, A2, n2, c2', rfl, by omega, by have := HKQ.out; omega, HBY⟩
    by_cases hj2 : j = 2
    · subst hj2
      rw [show ((2 : Nat) : Int) = 2 from rfl]
      have p7 : wr.cell? ⟨g, 7, none⟩ = some (.slice A1 n1 c1) := (blk_cell HBS.out.cell 7).trans rfl
      have hu : IntKind.u64.wrap (v.size : Int) = (v.size : Int) := by rw [Go.IntKind.wrap_u64]; have := HSZ.out; omega
      have hix := idx2 (.int .i64 0) (.int .i64 (n7 : Int)) (.int .i64 (v.size : Int))
      have HPV := Aside0.mk (codec_PutVarint.calls 16 A1 c1 (putJ bytes 0 (n7 : Int) (v.size : Int) 2) (v.size : Int) (putJ bytes 0 (n7 : Int) (v.size : Int) 3) wr HC1.out.2 (by have h1 := HC1.out.1; have h2 := HN1.out; omega) (PutVarint_eq 16 _ (v.size : Int) (by omega) (by have := HSZ.out; omega) (by have := HL1.out; omega) (by omega)))
      rw [← HN1.out] at HPV
      have HKQ := Aside0.mk hkq
      clear hkq hj3 hj0 hj1
      go_wp2_with fail
      (with_reducible refine HPV.out.mono ?_)
      rintro e wx ⟨v', rfl, hr', hb'⟩
      obtain ⟨A2, c2', rfl, _, _⟩ := Kd.R_reads hr'
      obtain ⟨n2, hn2⟩ : ∃ x, (putJ bytes 0 (n7 : Int) (v.size : Int) 3).length = x := ⟨_, rfl⟩
      rw [hn2] at hr' ⊢
      have p7x : wx.cell? ⟨g, 7, none⟩ = some (.slice A1 n1 c1) := (blk_cell (HBS.out.later hb').cell 7).trans rfl
      have f7x := blk_frozen (HBS.out.later hb').cell 7
      have HBX := Aside0.mk (HBS.out.newB hb' hr')
      clear hr' hb' hn2 p7 HPV hu hix
      go_wp2
      generalize hWY : wx.setCell _ _ = wy
      have HBY := Aside0.mk (show BS w wy (Own3 g (.slice Ak nk ck) (.slice Ab nb cb) (.slice Ap np cp)) g base q4 (ks, kn, kd) A7 n7 c7 kl #[.int .i64 r, .int .i64 0, .int .i64 0, .string k0s, .int .u64 k0n, .int .i64 k0d, (.slice Ak nk ck), (.slice A2 n2 c2'), (.slice (some ⟨b2, 0, none⟩) np1 c2)] (.slice Ak nk ck) (.slice A2 n2 c2') (.slice (some ⟨b2, 0, none⟩) np1 c2) key (putJ bytes 0 (n7 : Int) (v.size : Int) 3) (places ++ [(nb : Int)]) by rw [← hWY]; exact HBX.out.put 7 _)
      clear hWY
      go_roundg gk1
      case measure => have := HKQ.out; omega
      case rel => exact ⟨3, A2, n2, c2', rfl, by omega, by have := HKQ.out; omega, HBY⟩
    obtain rfl : j = 3 := by omega
    rw [show ((3 : Nat) : Int) = 3 from rfl]
    clear hkq hj3 hj0 hj1 hj2
    obtain ⟨i0, hi0, _, hsz0, _⟩ := info_parts HI.out
    have hcut := cut_from (P := Try.prog) 23 5 .i64 Try.underlying23 hi0 1 hsz0 A7 n7 c7 0 (by omega) (by omega)
    rw [show (0 : Int).toNat = 0 from rfl] at hcut
    obtain ⟨A8, hA8⟩ : ∃ x, (if c7 = 0 then A7 else A7.map (·.add (0 * 1))) = x := ⟨_, rfl⟩
    obtain ⟨m8, hm8⟩ : ∃ x, n7 - 0 = x := ⟨_, rfl⟩
    obtain ⟨c8, hc8⟩ : ∃ x, c7 - 0 = x := ⟨_, rfl⟩
    rw [hA8, hm8, hc8] at hcut
    have HC8 := Aside0.mk (show ∀ X, Kd.R (Kd.int .u8) 5 X base (fun _ => True) (.slice A7 n7 c7) kl → Kd.C (Kd.int .u8) X A8 m8 (kl.drop 0) from fun X h => by
      have h2 := Kd.R_reads' h
      have h3 := Kd.C_drop (c := c7) (m := 0) h2.2.2 (by have := HN7.out; omega) (by have := HN7.out; have := HC7.out; omega)
      rw [List.length_drop, HN7.out, hm8] at h3
      rw [← hA8]
      exact h3)
    have HM8 := Aside0.mk (show m8 ≤ 1032 by have := HKL2.out; omega)
    have p7 : wr.cell? ⟨g, 7, none⟩ = some (.slice A1 n1 c1) := (blk_cell HBS.out.cell 7).trans rfl
    clear hA8 hm8 hc8 hi0 hsz0
    go_wp2_with fail
    refine start_ (n := 14) (S := fun w' => w'.cell? ⟨g, 7, none⟩ = some (.slice A1 n1 c1)) (ds := [13]) #[false, false, false, false, false, false, false, false, false, false, false, false, false, false] (by kernel_rfl) rfl rfl (p7) (fun hHeld => ?_)
    refine pure_ (i := 0) (N := some 101) (v := ?_) (a' := ?_) #[true, false, false, false, false, false, false, false, false, false, false, false, false, false] rfl rfl (by kernel_rfl) (fun _ _ _ h => h) (Or.inl ⟨by rfl, ?_⟩) ?_ ?_
    rotate_left
    · intro w'
      go_simp
      with_reducible rfl
    rotate_left
    · simp only [Act.put, List.setIfInBounds_toArray, List.set_cons_zero, List.set_cons_succ, i64_w, i32_w]
      rfl
    refine pure_ (i := 1) (N := some 102) (v := ?_) (a' := ?_) #[true, true, false, false, false, false, false, false, false, false, false, false, false, false] rfl rfl (by kernel_rfl) (fun _ _ _ h => h) (Or.inl ⟨by rfl, ?_⟩) ?_ ?_
    rotate_left
    · intro w'
      go_simp
      with_reducible rfl
    rotate_left
    · simp only [Act.put, List.setIfInBounds_toArray, List.set_cons_zero, List.set_cons_succ, i64_w, i32_w]
      rfl
    refine pure_ (i := 2) (N := some 103) (v := ?_) (a' := ?_) #[true, true, true, false, false, false, false, false, false, false, false, false, false, false] rfl rfl (by kernel_rfl) (fun _ _ _ h => h) (Or.inl ⟨by rfl, ?_⟩) ?_ ?_
    rotate_left
    · intro w'
      go_simp
      with_reducible rfl
    rotate_left
    · simp only [Act.put, List.setIfInBounds_toArray, List.set_cons_zero, List.set_cons_succ, i64_w, i32_w]
      rfl
    refine pure_ (i := 3) (N := some 104) (v := ?_) (a' := ?_) #[true, true, true, true, false, false, false, false, false, false, false, false, false, false] rfl rfl (by kernel_rfl) (fun _ _ _ h => h) (Or.inl ⟨by rfl, ?_⟩) ?_ ?_
    rotate_left
    · intro w'
      go_simp
      with_reducible rfl
    rotate_left
    · simp only [Act.put, List.setIfInBounds_toArray, List.set_cons_zero, List.set_cons_succ, i64_w, i32_w]
      rfl
    refine pure_ (i := 5) (N := some 106) (v := ?_) (a' := ?_) #[true, true, true, true, false, true, false, false, false, false, false, false, false, false] rfl rfl (by kernel_rfl) (fun _ _ _ h => h) (Or.inl ⟨by rfl, ?_⟩) ?_ ?_
    rotate_left
    · intro w'
      go_simp
      with_reducible rfl
    rotate_left
    · simp only [Act.put, List.setIfInBounds_toArray, List.set_cons_zero, List.set_cons_succ, i64_w, i32_w]
      rfl
    refine pure_ (i := 6) (N := some 107) (v := ?_) (a' := ?_) #[true, true, true, true, false, true, true, false, false, false, false, false, false, false] rfl rfl (by kernel_rfl) (fun _ _ _ h => h) (Or.inl ⟨by rfl, ?_⟩) ?_ ?_
    rotate_left
    · intro w'
      go_simp
      with_reducible rfl
    rotate_left
    · simp only [Act.put, List.setIfInBounds_toArray, List.set_cons_zero, List.set_cons_succ, i64_w, i32_w]
      rfl
    refine pure_ (i := 7) (N := some 108) (v := ?_) (a' := ?_) #[true, true, true, true, false, true, true, true, false, false, false, false, false, false] rfl rfl (by kernel_rfl) (fun _ _ _ h => h) (Or.inl ⟨by rfl, ?_⟩) ?_ ?_
    rotate_left
    · intro w'
      go_simp
      with_reducible rfl
    rotate_left
    · simp only [Act.put, List.setIfInBounds_toArray, List.set_cons_zero, List.set_cons_succ, i64_w, i32_w]
      rfl
    refine pure_ (i := 9) (N := some 110) (v := ?_) (a' := ?_) #[true, true, true, true, false, true, true, true, false, true, false, false, false, false] rfl rfl (by kernel_rfl) (fun _ _ _ h => h) (Or.inl ⟨by rfl, ?_⟩) ?_ ?_
    rotate_left
    · intro w'
      go_simp
      with_reducible rfl
    rotate_left
    · simp only [Act.put, List.setIfInBounds_toArray, List.set_cons_zero, List.set_cons_succ, i64_w, i32_w]
      rfl
    refine take_ (i := 4) (N := some 105) (v := ?_) (a' := ?_) #[true, true, true, true, true, true, true, true, false, true, false, false, false, false] rfl rfl (by kernel_rfl) (fun _ _ _ h => h) (Or.inl ⟨by rfl, ?_⟩) hHeld ?_ ?_
    rotate_left
    · intro w' s0
      go_simp
      with_reducible rfl
    rotate_left
    · simp only [Act.put, List.setIfInBounds_toArray, List.set_cons_zero, List.set_cons_succ, i64_w, i32_w]
      rfl
    refine one_ (i := 8) (N := some 109) #[true, true, true, true, true, true, true, true, true, true, false, false, false, false] rfl rfl (by kernel_rfl) (by decide) (fun K hK => ?_)
    refine Kd.R_append_rows_step (Kd.int .u8) (w0 := w) (W := wr.drew) base (by rfl) (.tmp 105) (.tmp 108) 23 5 (.int .u8 0) 1 rfl Try.underlying23 HI.out rfl (by decide) (by decide) (.slice A1 n1 c1) (putJ bytes 0 (n7 : Int) (v.size : Int) 3) (kl.drop 0) A8 m8 c8 (fun _ => True) (fun _ => False) rfl rfl (HBS.out.later (below_drew1 (Below.refl _ _))).bytes (HC8.out _ (HBS.out.later (below_drew1 (Below.refl _ _))).row7) (fun _ _ h => h) (fun _ h => h.elim) (fun _ _ => trivial) (HBS.out.later (below_drew1 (Below.refl _ _))).below (by have h1 := HBS.out.bw; have h2 := HBS.out.kept.1; exact Nat.le_trans h1 h2) (by have h1 := HL1.out; have h2 := HM8.out; omega) ?_
    intro v9 w9 ho hb hg hat
    obtain ⟨A9, c9, rfl, _, _⟩ := Kd.R_reads ho
    obtain ⟨n9, hn9⟩ : ∃ x, ((putJ bytes 0 (n7 : Int) (v.size : Int) 3) ++ kl.drop 0).length = x := ⟨_, rfl⟩
    rw [hn9] at ho hat ⊢
    have HN9 := Aside0.mk (show n9 ≤ nb + 1062 by rw [← hn9, List.length_append, List.length_drop]; have h1 := HL1.out; have h2 := HN7.out; have h3 := HKL2.out; omega)
    have HN9b := Aside0.mk hn9
    have HBS9 := Aside0.mk (show BS w w9 (Own3 g (.slice Ak nk ck) (.slice Ab nb cb) (.slice Ap np cp)) g base q4 (ks, kn, kd) A7 n7 c7 kl #[.int .i64 r, .int .i64 0, .int .i64 0, .string k0s, .int .u64 k0n, .int .i64 k0d, (.slice Ak nk ck), (.slice A1 n1 c1), (.slice (some ⟨b2, 0, none⟩) np1 c2)] (.slice Ak nk ck) (.slice A9 n9 c9) (.slice (some ⟨b2, 0, none⟩) np1 c2) key ((putJ bytes 0 (n7 : Int) (v.size : Int) 3) ++ kl.drop 0) (places ++ [(nb : Int)]) from (HBS.out.later (below_drew1 (Below.refl _ _))).grownB hg ho hat)
    have t7 : w9.cell? ⟨g, 7, none⟩ = some (.slice A1 n1 c1) := (blk_cell HBS9.out.cell 7).trans rfl
    clear ho hb hg hat hn9
    refine hK.out _ _ (t7) (fun hHeld => ?_)
    clear hK K
    refine norm_ (a' := ?_) ?_ ?_
    rotate_left
    · show Act.put _ (some 109) _ = _
      simp only [Act.put, List.setIfInBounds_toArray, List.set_cons_zero, List.set_cons_succ, i64_w, i32_w]
      rfl
    refine one_ (i := 10) (N := some 111) #[true, true, true, true, true, true, true, true, true, true, true, false, false, false] rfl rfl (by kernel_rfl) (by decide) (fun K hK => ?_)
    refine R_append_str_step (W := w9) base (by rfl) (.tmp 109) (.tmp 110) 23 9 5 rfl Try.underlying23 Try.underlying9 HI.out (.slice A9 n9 c9) ((putJ bytes 0 (n7 : Int) (v.size : Int) 3) ++ kl.drop 0) v rfl rfl HBS9.out.bytes (by have h1 := HBS9.out.bw; have h2 := HBS9.out.kept.1; exact Nat.le_trans h1 h2) (by rw [HN9b.out]; have h1 := HN9.out; have h2 := HSZ.out; omega) ?_
    intro v10 wA ho hg hat
    obtain ⟨AA, cA, rfl, _, _⟩ := Kd.R_reads ho
    obtain ⟨nA, hnA⟩ : ∃ x, ((putJ bytes 0 (n7 : Int) (v.size : Int) 3) ++ kl.drop 0 ++ bytesOf v).length = x := ⟨_, rfl⟩
    rw [hnA] at ho hat ⊢
    have HBSA := Aside0.mk (show BS w wA (Own3 g (.slice Ak nk ck) (.slice Ab nb cb) (.slice Ap np cp)) g base q4 (ks, kn, kd) A7 n7 c7 kl #[.int .i64 r, .int .i64 0, .int .i64 0, .string k0s, .int .u64 k0n, .int .i64 k0d, (.slice Ak nk ck), (.slice A1 n1 c1), (.slice (some ⟨b2, 0, none⟩) np1 c2)] (.slice Ak nk ck) (.slice AA nA cA) (.slice (some ⟨b2, 0, none⟩) np1 c2) key ((putJ bytes 0 (n7 : Int) (v.size : Int) 3) ++ kl.drop 0 ++ bytesOf v) (places ++ [(nb : Int)]) from HBS9.out.grownB hg ho hat)
    have s7 : wA.cell? ⟨g, 7, none⟩ = some (.slice A1 n1 c1) := (blk_cell HBSA.out.cell 7).trans rfl
    have f7 := blk_frozen HBSA.out.cell 7
    clear ho hg hat hnA
    refine hK.out _ _ (s7) (fun hHeld => ?_)
    clear hK K
    refine norm_ (a' := ?_) ?_ ?_
    rotate_left
    · show Act.put _ (some 111) _ = _
      simp only [Act.put, List.setIfInBounds_toArray, List.set_cons_zero, List.set_cons_succ, i64_w, i32_w]
      rfl
    refine pure_ (i := 11) (N := some 112) (v := ?_) (a' := ?_) #[true, true, true, true, true, true, true, true, true, true, true, true, false, false] rfl rfl (by kernel_rfl) (fun _ _ _ h => h) (Or.inl ⟨by rfl, ?_⟩) ?_ ?_
    rotate_left
    · intro w'
      go_simp
      with_reducible rfl
    rotate_left
    · simp only [Act.put, List.setIfInBounds_toArray, List.set_cons_zero, List.set_cons_succ, i64_w, i32_w]
      rfl
    refine pure_ (i := 12) (N := some 113) (v := ?_) (a' := ?_) #[true, true, true, true, true, true, true, true, true, true, true, true, true, false] rfl rfl (by kernel_rfl) (fun _ _ _ h => h) (Or.inl ⟨by rfl, ?_⟩) ?_ ?_
    rotate_left
    · intro w'
      go_simp
      with_reducible rfl
    rotate_left
    · simp only [Act.put, List.setIfInBounds_toArray, List.set_cons_zero, List.set_cons_succ, i64_w, i32_w]
      rfl
    refine last_ (i := 13) (N := none) #[true, true, true, true, true, true, true, true, true, true, true, true, true, true] rfl rfl (by kernel_rfl) (by decide) (fun K hK => ?_)
    refine skip_ (w1 := ?_) (by rfl) rfl ?_ ?_
    rotate_left
    · go_simp
      rfl
    generalize hWB : wA.setCell _ _ = wB
    have HBSB := Aside0.mk (show BS w wB (Own3 g (.slice Ak nk ck) (.slice Ab nb cb) (.slice Ap np cp)) g base q4 (ks, kn, kd) A7 n7 c7 kl #[.int .i64 r, .int .i64 0, .int .i64 0, .string k0s, .int .u64 k0n, .int .i64 k0d, (.slice Ak nk ck), (.slice AA nA cA), (.slice (some ⟨b2, 0, none⟩) np1 c2)] (.slice Ak nk ck) (.slice AA nA cA) (.slice (some ⟨b2, 0, none⟩) np1 c2) key ((putJ bytes 0 (n7 : Int) (v.size : Int) 3) ++ kl.drop 0 ++ bytesOf v) (places ++ [(nb : Int)]) by rw [← hWB]; exact HBSA.out.put 7 _)
    clear hWB
    refine hK.out _ _ ?_
    clear hK K
    refine done_ (by kernel_rfl) ?_
    have HBS := HBSB
    clear p7 hHeld t7 s7 f7 HBS9 HBSA HBSB HN9 HN9b HC8 HM8 hcut
    have hkc : nk ≤ ck := by have h1 := (Kd.R_reads' HBS.out.key).2.1; have h2 := HNK.out; omega
    obtain ⟨i1, hi1, _, _, _⟩ := info_parts HI.out
    have hcut0 := cut_to (P := Try.prog) 23 5 .i64 Try.underlying23 hi1 Ak nk ck 0 (by omega) (by omega) hkc
    rw [show (0 : Int).toNat = 0 from rfl] at hcut0
    clear hi1 hkc
    have HC7x := Aside0.mk (show ∀ X, Kd.R (Kd.int .u8) 5 X base (fun _ => True) (.slice A7 n7 c7) kl → Kd.C (Kd.int .u8) X A7 n7 kl from fun X h => by have h2 := (Kd.R_reads' h).2.2; rw [HN7.out] at h2; exact h2)
    have HK0 := Aside0.mk (Kd.R_take (m := 0) HBS.out.key (Nat.zero_le _))
    have p6 : wB.cell? ⟨g, 6, none⟩ = some (.slice Ak nk ck) := (blk_cell HBS.out.cell 6).trans rfl
    go_wp2_with (first | ((with_reducible refine gate_builtin (b := .append) (xs := #[.tmp 119, .tmp 121]) rfl ?_); at_builtin; refine Kd.R_append_zeros (Kd.int .u8) (w0 := w) base rfl (.tmp 119) (.tmp 121) 23 3 5 (.int .u8 0) 1 rfl Try.underlying23 Try.underlying3 HI.out rfl (by decide) (by decide) (.slice Ak 0 ck) (key.take 0) (0 : Int) (kx := .i64) (n7 : Int) (fun _ => True) rfl rfl rfl (fun _ _ => trivial) HK0.out (by omega) HBS.out.below (by have h1 := HBS.out.bw; have h2 := HBS.out.kept.1; exact Nat.le_trans h1 h2) (by rw [Int.toNat_natCast, List.take_zero, List.length_nil]; have := HKL2.out; omega) ?_; intro v11 wC ho hb hg hat; rw [Int.toNat_natCast, List.take_zero, List.nil_append] at ho; obtain ⟨b6, c6, rfl, _, _, _⟩ := Kd.R_form ho (by rw [List.length_replicate]; have := HKL4.out; omega); rw [List.length_replicate] at ho hat ⊢; rw [own_len Ak 0 ck nk ck] at hg hat; have HBSC := Aside0.mk (show BS w wC (Own3 g (.slice Ak nk ck) (.slice Ab nb cb) (.slice Ap np cp)) g base q4 (ks, kn, kd) A7 n7 c7 kl #[.int .i64 r, .int .i64 0, .int .i64 0, .string k0s, .int .u64 k0n, .int .i64 k0d, (.slice Ak nk ck), (.slice AA nA cA), (.slice (some ⟨b2, 0, none⟩) np1 c2)] (.slice (some ⟨b6, 0, none⟩) n7 c6) (.slice AA nA cA) (.slice (some ⟨b2, 0, none⟩) np1 c2) (List.replicate n7 0) ((putJ bytes 0 (n7 : Int) (v.size : Int) 3) ++ kl.drop 0 ++ bytesOf v) (places ++ [(nb : Int)]) from HBS.out.grownK hg ho hat); have t6 : wC.cell? ⟨g, 6, none⟩ = some (.slice Ak nk ck) := (blk_cell HBSC.out.cell 6).trans rfl; have f6 := blk_frozen HBSC.out.cell 6; have HBSD := Aside0.mk (show BS w (wC.setCell ⟨g, 6, none⟩ (.slice (some ⟨b6, 0, none⟩) n7 c6)) (Own3 g (.slice Ak nk ck) (.slice Ab nb cb) (.slice Ap np cp)) g base q4 (ks, kn, kd) A7 n7 c7 kl #[.int .i64 r, .int .i64 0, .int .i64 0, .string k0s, .int .u64 k0n, .int .i64 k0d, (.slice (some ⟨b6, 0, none⟩) n7 c6), (.slice AA nA cA), (.slice (some ⟨b2, 0, none⟩) np1 c2)] (.slice (some ⟨b6, 0, none⟩) n7 c6) (.slice AA nA cA) (.slice (some ⟨b2, 0, none⟩) np1 c2) (List.replicate n7 0) ((putJ bytes 0 (n7 : Int) (v.size : Int) 3) ++ kl.drop 0 ++ bytesOf v) (places ++ [(nb : Int)]) from HBSC.out.put 6 _); have u6 := (blk_cell HBSD.out.cell 6).trans (show _ = some (.slice (some ⟨b6, 0, none⟩) n7 c6) from rfl); clear ho hb hg hat HK0 p6 hcut0) | ((with_reducible refine gate_builtin (b := .copy) (xs := #[.tmp 128, .tmp 129]) rfl ?_); refine Kd.R_copy (enc := Value.int .u8) (h1 := fun _ => rfl) (0 : Int) (w0 := w) base rfl (.tmp 128) (.tmp 129) 23 23 5 rfl Try.underlying23 (by kernel_rfl) (.slice (some ⟨b6, 0, none⟩) n7 c6) (List.replicate n7 0) kl A7 n7 c7 (fun _ => True) rfl rfl HBSD.out.key (HC7x.out _ HBSD.out.row7) HBSD.out.below (by have h1 := HBSD.out.bw; have h2 := HBSD.out.kept.1; exact Nat.le_trans h1 h2) ?_; intro wE ho hb hg; rw [List.length_replicate, Nat.min_self, List.take_of_length_le (Nat.le_of_eq HN7.out), List.drop_of_length_le (by rw [List.length_replicate]; exact Nat.le_refl _), List.append_nil] at ho; have HBSE := Aside0.mk (show BS w wE (Own3 g (.slice Ak nk ck) (.slice Ab nb cb) (.slice Ap np cp)) g base q4 (ks, kn, kd) A7 n7 c7 kl #[.int .i64 r, .int .i64 0, .int .i64 0, .string k0s, .int .u64 k0n, .int .i64 k0d, (.slice (some ⟨b6, 0, none⟩) n7 c6), (.slice AA nA cA), (.slice (some ⟨b2, 0, none⟩) np1 c2)] (.slice (some ⟨b6, 0, none⟩) n7 c6) (.slice AA nA cA) (.slice (some ⟨b2, 0, none⟩) np1 c2) kl ((putJ bytes 0 (n7 : Int) (v.size : Int) 3) ++ kl.drop 0 ++ bytesOf v) (places ++ [(nb : Int)]) from HBSD.out.grownK hg ho (.inl rfl)); clear ho hb hg u6 t6 f6 HBSC HBSD; have q40 := (blk_cell HBSE.out.box4 0).trans (show _ = some (.string ks) from rfl); have q41 := (blk_cell HBSE.out.box4 1).trans (show _ = some (.int .u64 kn) from rfl); have q42 := (blk_cell HBSE.out.box4 2).trans (show _ = some (.int .i64 kd) from rfl); have t3 := (blk_cell HBSE.out.cell 3).trans (show _ = some (.string k0s) from rfl); have t4 := (blk_cell HBSE.out.cell 4).trans (show _ = some (.int .u64 k0n) from rfl); have t5 := (blk_cell HBSE.out.cell 5).trans (show _ = some (.int .i64 k0d) from rfl); have f3 := blk_frozen HBSE.out.cell 3; have f4 := blk_frozen HBSE.out.cell 4; have f5 := blk_frozen HBSE.out.cell 5; have HBSF := Aside0.mk (show BS w (((wE.setCell ⟨g, 3, none⟩ (.string ks)).setCell ⟨g, 4, none⟩ (.int .u64 kn)).setCell ⟨g, 5, none⟩ (.int .i64 kd)) (Own3 g (.slice Ak nk ck) (.slice Ab nb cb) (.slice Ap np cp)) g base q4 (ks, kn, kd) A7 n7 c7 kl #[.int .i64 r, .int .i64 0, .int .i64 0, .string ks, .int .u64 kn, .int .i64 kd, (.slice (some ⟨b6, 0, none⟩) n7 c6), (.slice AA nA cA), (.slice (some ⟨b2, 0, none⟩) np1 c2)] (.slice (some ⟨b6, 0, none⟩) n7 c6) (.slice AA nA cA) (.slice (some ⟨b2, 0, none⟩) np1 c2) kl ((putJ bytes 0 (n7 : Int) (v.size : Int) 3) ++ kl.drop 0 ++ bytesOf v) (places ++ [(nb : Int)]) from ((HBSE.out.put 3 _).put 4 _).put 5 _); have u1 := (blk_cell HBSF.out.cell 1).trans (show _ = some (.int .i64 0) from rfl); have fr1 := blk_frozen HBSF.out.cell 1; have HBSG := Aside0.mk (show BS w ((((wE.setCell ⟨g, 3, none⟩ (.string ks)).setCell ⟨g, 4, none⟩ (.int .u64 kn)).setCell ⟨g, 5, none⟩ (.int .i64 kd)).setCell ⟨g, 1, none⟩ (.int .i64 1)) (Own3 g (.slice Ak nk ck) (.slice Ab nb cb) (.slice Ap np cp)) g base q4 (ks, kn, kd) A7 n7 c7 kl #[.int .i64 r, .int .i64 1, .int .i64 0, .string ks, .int .u64 kn, .int .i64 kd, (.slice (some ⟨b6, 0, none⟩) n7 c6), (.slice AA nA cA), (.slice (some ⟨b2, 0, none⟩) np1 c2)] (.slice (some ⟨b6, 0, none⟩) n7 c6) (.slice AA nA cA) (.slice (some ⟨b2, 0, none⟩) np1 c2) kl ((putJ bytes 0 (n7 : Int) (v.size : Int) 3) ++ kl.drop 0 ++ bytesOf v) (places ++ [(nb : Int)]) from HBSF.out.put 1 _); have u2 := (blk_cell HBSG.out.cell 2).trans (show _ = some (.int .i64 0) from rfl); have fr2 := blk_frozen HBSG.out.cell 2; have HBSH := Aside0.mk (show BS w (((((wE.setCell ⟨g, 3, none⟩ (.string ks)).setCell ⟨g, 4, none⟩ (.int .u64 kn)).setCell ⟨g, 5, none⟩ (.int .i64 kd)).setCell ⟨g, 1, none⟩ (.int .i64 1)).setCell ⟨g, 2, none⟩ (.int .i64 1)) (Own3 g (.slice Ak nk ck) (.slice Ab nb cb) (.slice Ap np cp)) g base q4 (ks, kn, kd) A7 n7 c7 kl #[.int .i64 r, .int .i64 1, .int .i64 1, .string ks, .int .u64 kn, .int .i64 kd, (.slice (some ⟨b6, 0, none⟩) n7 c6), (.slice AA nA cA), (.slice (some ⟨b2, 0, none⟩) np1 c2)] (.slice (some ⟨b6, 0, none⟩) n7 c6) (.slice AA nA cA) (.slice (some ⟨b2, 0, none⟩) np1 c2) kl ((putJ bytes 0 (n7 : Int) (v.size : Int) 3) ++ kl.drop 0 ++ bytesOf v) (places ++ [(nb : Int)]) from HBSG.out.put 2 _)))
    go_ret
    have hK : kl = keyB (ks, kn, kd) := HKL.out.symm
    have hB : ((putJ bytes 0 (n7 : Int) (v.size : Int) 3) ++ kl.drop 0 ++ bytesOf v) = bytes ++ entB 0 (keyB (ks, kn, kd)) v := by
      rw [← hK]
      unfold entB putJ
      rw [HN7.out, show ((0 : Nat) : Int) = 0 from rfl, Int.sub_zero]
      simp only [List.append_assoc]
    have h1 := HBSH.out.key
    have h2 := HBSH.out.bytes
    have h3 := HBSH.out.places
    rw [hK] at h1
    rw [hB] at h2
    rw [HNB.out] at h3
    exact ⟨_, _, _, rfl, ⟨HBSH.out.cell, h1, h2, h3, HBSH.out.sep, HBSH.out.gb, Nat.le_trans HBSH.out.bw HBSH.out.kept.1⟩, HBSH.out.below, HBSH.out.kept⟩
set_option maxHeartbeats 16000000 in
set_option maxRecDepth 100000 in
theorem bu_add_b (w : World) (g base : Nat) (r s n : Int) (k0s : ByteArray) (k0n k0d : Int) (Ak : Option Addr) (nk ck : Nat) (Ab : Option Addr) (nb cb : Nat) (Ap : Option Addr) (np cp : Nat) (key bytes places : List Int) (ks : ByteArray) (kn kd : Int) (v : ByteArray)
    (h : BuAt w g base r s n (k0s, k0n, k0d) (.slice Ak nk ck) (.slice Ab nb cb) (.slice Ap np cp) key bytes places) (hr : 1 ≤ r) (hkn : 0 ≤ kn) (hv : validOf ks kn kd = true) (hsz : v.size ≤ 65536) (hn0 : 0 ≤ n) (hn1 : n ≤ 1099511627776) (hs0 : 0 ≤ s) (hs1 : s ≤ 1099511627776) (hbl : bytes.length ≤ 1099511627776) (hpl : places.length ≤ 1099511627776) (hkl : key.length ≤ 1099511627776) (hn : 0 < n) (hc : kc k0s.toList k0n k0d ks.toList kn kd < 0) (hs : r = s) :
    Calls Try.prog 18 #[.pointer (some ⟨g, 0, none⟩), .agg #[.string ks, .int .u64 kn, .int .i64 kd], .string v] w fun e w' => ∃ vk' vb' vp', e = .returned (.int .i64 0) ∧ BuAt w' g base r 1 (n + 1) (ks, kn, kd) vk' vb' vp' (keyB (ks, kn, kd)) (bytes ++ entB 0 (keyB (ks, kn, kd)) v) (places ++ [(bytes.length : Int)]) ∧ Below base w w' ∧ Kept w w' (Own3 g (.slice Ak nk ck) (.slice Ab nb cb) (.slice Ap np cp)) := by
  have hvp := validOf_parts hv
  have hkl2 : (bytesOf ks ++ fixF 8 (kn * 256 + kd)).length = ks.size + 8 := by rw [List.length_append, bytesOf_length, fixF_len]
  have HEN := Aside0.mk (show ikey_Encode.f 16 ks kn kd = some (bytesOf ks ++ fixF 8 (kn * 256 + kd), 0) by rw [encode_eq 16 ks kn kd hkn (by omega)]; unfold encK; rw [if_pos hv])
  obtain ⟨kl, hkl3⟩ : ∃ l, bytesOf ks ++ fixF 8 (kn * 256 + kd) = l := ⟨_, rfl⟩
  rw [hkl3] at HEN hkl2
  have HKL := Aside0.mk hkl3
  obtain ⟨W0, hW0⟩ : ∃ W0, w.alloc (.cells #[.string ks, .int .u64 kn, .int .i64 kd] 28) = W0 := ⟨_, rfl⟩
  have hb0 : Below w.heap.size w W0 := by rw [← hW0]; exact below_alloc (Below.refl _ _) _
  have hx0 : W0.heap[w.heap.size]? = some (.cells #[.string ks, .int .u64 kn, .int .i64 kd] 28 (0, 0)) := by rw [← hW0]; exact blk_new w _
  have HX0 := Aside0.mk hx0
  have HB0 := Aside0.mk hb0
  have HBU := Aside0.mk (h.below hb0)
  have HW := Aside0.mk hW0
  have HGB := Aside0.mk h.gb
  have HBW := Aside0.mk h.bw
  have HNN := Aside0.mk (bu_none g r (by omega) W0 (by rw [← hW0]; exact (pw_cell_below hb0 ((blk_cell h.cell 0).trans rfl)) |> fun q => by rw [hW0]; exact q))
  have ck0 := (blk_cell hx0 0).trans (show _ = some (.string ks) from rfl)
  have ck1 := (blk_cell hx0 1).trans (show _ = some (.int .u64 kn) from rfl)
  have ck2 := (blk_cell hx0 2).trans (show _ = some (.int .i64 kd) from rfl)
  have d1 : decide ((v.size : Int) > 65536) = false := decide_eq_false (by omega)
  have d1' : decide (65536 < v.size) = false := decide_eq_false (by omega)
  have HSZ := Aside0.mk hsz
  have hks : ks.size ≤ 1024 := hvp.2.1
  obtain ⟨q4, hq4⟩ : ∃ q, w.heap.size = q := ⟨_, rfl⟩
  have HQ4 := Aside0.mk hq4
  clear h hW0 hb0 hx0 hv hvp hsz hkl3 hq4
  go_enter Try.func18, Try.ntmps18
  go_wp2_with fail
  rw [HW.out]
  (with_reducible refine HNN.out.mono ?_)
  rintro e w1 ⟨rfl, rfl⟩
  go_wp2_with fail
  (with_reducible refine (ikey_Encode.calls 16 ks kn kd kl 0 _ HEN.out).mono ?_)
  rintro e w2 ⟨v7, rfl, hr7, hb⟩
  obtain ⟨A7, c7, rfl, hc7, _⟩ := Kd.R_reads hr7
  obtain ⟨n7, hn7⟩ : ∃ n, kl.length = n := ⟨_, rfl⟩
  rw [hn7] at hr7 hc7 hkl2 ⊢
  have HN7 := Aside0.mk hn7
  have HC7 := Aside0.mk hc7
  have HKL2 := Aside0.mk (show n7 ≤ 1032 by omega)
  have HKL4 := Aside0.mk (show 8 ≤ n7 by omega)
  have hbu := HBU.out.below hb
  have h0s := HB0.out.size
  have HBS := Aside0.mk (show BS w w2 (Own3 g (.slice Ak nk ck) (.slice Ab nb cb) (.slice Ap np cp)) g base w.heap.size (ks, kn, kd) A7 n7 c7 kl #[.int .i64 r, .int .i64 s, .int .i64 n, .string k0s, .int .u64 k0n, .int .i64 k0d, (.slice Ak nk ck), (.slice Ab nb cb), (.slice Ap np cp)] (.slice Ak nk ck) (.slice Ab nb cb) (.slice Ap np cp) key bytes places from
    ⟨hbu.cell, hbu.key, hbu.bytes, hbu.places, hbu.sep, hbu.gb, HBW.out, (below_step HB0.out hb).mono HBW.out, Kept.of_below (below_step HB0.out hb) _, .inl (.inl rfl), fun q hq => .inl (.inr (.inl hq)), fun q hq => .inl (.inr (.inr (.inl hq))), fun q hq => .inl (.inr (.inr (.inr hq))), Kd.R_lower hr7 (Nat.le_trans HBW.out h0s),
      fun q hq => ⟨fun e => by have h1 := Kd.R_base hr7 q hq; have h2 := Kd.R_lt HBU.out.key q e; omega, fun e => by have h1 := Kd.R_base hr7 q hq; have h2 := Kd.R_lt HBU.out.bytes q e; omega⟩, blk_below HX0.out hb⟩)
  rw [HQ4.out] at HBS ⊢
  have hNb : nb = bytes.length := (Kd.R_reads' HBS.out.bytes).1
  have hNp : np = places.length := (Kd.R_reads' HBS.out.places).1
  have hNk : nk = key.length := (Kd.R_reads' HBS.out.key).1
  have HNB := Aside0.mk hNb
  have HNP := Aside0.mk hNp
  have HNK := Aside0.mk hNk
  rw [← hNb] at hbl
  rw [← hNp] at hpl
  rw [← hNk] at hkl
  clear ck0 ck1 ck2 hr7 hc7 hn7 hkl2 hks hb hbu h0s HX0 HBU HW HNN HEN hNb hNp hNk
  have e0 : decide (n > 0) = true := decide_eq_true (by omega)
  have e0' : decide (0 < n) = true := decide_eq_true (by omega)
  have e2 : (n == 0) = false := by simp; omega
  subst hs
  have p2 : w2.cell? ⟨g, 2, none⟩ = some (.int .i64 n) := (blk_cell HBS.out.cell 2).trans rfl
  have p3 : w2.cell? ⟨g, 3, none⟩ = some (.string k0s) := (blk_cell HBS.out.cell 3).trans rfl
  have p4 : w2.cell? ⟨g, 4, none⟩ = some (.int .u64 k0n) := (blk_cell HBS.out.cell 4).trans rfl
  have p5 : w2.cell? ⟨g, 5, none⟩ = some (.int .i64 k0d) := (blk_cell HBS.out.cell 5).trans rfl
  have p40 : w2.cell? ⟨q4, 0, none⟩ = some (.string ks) := (blk_cell HBS.out.box4 0).trans rfl
  have p41 : w2.cell? ⟨q4, 1, none⟩ = some (.int .u64 kn) := (blk_cell HBS.out.box4 1).trans rfl
  have p42 : w2.cell? ⟨q4, 2, none⟩ = some (.int .i64 kd) := (blk_cell HBS.out.box4 2).trans rfl
  obtain ⟨cv, hcv⟩ : ∃ x, kc k0s.toList k0n k0d ks.toList kn kd = x := ⟨_, rfl⟩
  rw [hcv] at hc
  have HCMP := Aside0.mk (show ikey_Compare.f 8 k0s k0n k0d ks kn kd = some cv by rw [← hcv]; exact compare_eq 4 _ _ _ _ _ _)
  have e1 : decide (cv ≥ 0) = false := decide_eq_false (by omega)
  have e1' : decide (0 ≤ cv) = false := decide_eq_false (by omega)
  clear hcv hc
  go_wp2_with fail
  refine start_ (n := 14) (S := fun w' => w'.cell? ⟨g, 2, none⟩ = some (.int .i64 n) ∧ w'.cell? ⟨g, 3, none⟩ = some (.string k0s) ∧ w'.cell? ⟨g, 4, none⟩ = some (.int .u64 k0n) ∧ w'.cell? ⟨g, 5, none⟩ = some (.int .i64 k0d) ∧ w'.cell? ⟨q4, 0, none⟩ = some (.string ks) ∧ w'.cell? ⟨q4, 1, none⟩ = some (.int .u64 kn) ∧ w'.cell? ⟨q4, 2, none⟩ = some (.int .i64 kd)) (ds := []) #[false, false, false, false, false, false, false, false, false, false, false, false, false, false] (by kernel_rfl) rfl rfl ⟨p2, p3, p4, p5, p40, p41, p42⟩ (fun hHeld => ?_)
  refine pure_ (i := 0) (N := some 26) (v := ?_) (a' := ?_) #[true, false, false, false, false, false, false, false, false, false, false, false, false, false] rfl rfl (by kernel_rfl) (fun _ _ _ h => h) (Or.inl ⟨by rfl, ?_⟩) ?_ ?_
  rotate_left
  · intro w'
    go_simp
    with_reducible rfl
  rotate_left
  · simp only [Act.put, List.setIfInBounds_toArray, List.set_cons_zero, List.set_cons_succ, i64_w, i32_w]
    rfl
  refine pure_ (i := 1) (N := some 27) (v := ?_) (a' := ?_) #[true, true, false, false, false, false, false, false, false, false, false, false, false, false] rfl rfl (by kernel_rfl) (fun _ _ _ h => h) (Or.inl ⟨by rfl, ?_⟩) ?_ ?_
  rotate_left
  · intro w'
    go_simp
    with_reducible rfl
  rotate_left
  · simp only [Act.put, List.setIfInBounds_toArray, List.set_cons_zero, List.set_cons_succ, i64_w, i32_w]
    rfl
  refine pure_ (i := 2) (N := some 28) (v := ?_) (a' := ?_) #[true, true, true, false, false, false, false, false, false, false, false, false, false, false] rfl rfl (by kernel_rfl) (fun _ _ _ h => h) (Or.inl ⟨by rfl, ?_⟩) ?_ ?_
  rotate_left
  · intro w'
    go_simp
    with_reducible rfl
  rotate_left
  · simp only [Act.put, List.setIfInBounds_toArray, List.set_cons_zero, List.set_cons_succ, i64_w, i32_w]
    rfl
  refine take_ (i := 3) (N := some 29) (v := ?_) (a' := ?_) #[true, true, true, true, false, false, false, false, false, false, false, false, false, false] rfl rfl (by kernel_rfl) (fun _ _ _ h => h) (Or.inl ⟨by rfl, ?_⟩) hHeld ?_ ?_
  rotate_left
  · rintro w' ⟨s0, s1, s2, s3, s4, s5, s6⟩
    go_simp
    with_reducible rfl
  rotate_left
  · simp only [Act.put, List.setIfInBounds_toArray, List.set_cons_zero, List.set_cons_succ, i64_w, i32_w]
    rfl
  refine pure_ (i := 4) (N := some 30) (v := ?_) (a' := ?_) #[true, true, true, true, true, false, false, false, false, false, false, false, false, false] rfl rfl (by kernel_rfl) (fun _ _ _ h => h) (Or.inl ⟨by rfl, ?_⟩) ?_ ?_
  rotate_left
  · intro w'
    go_simp
    with_reducible rfl
  rotate_left
  · simp only [Act.put, List.setIfInBounds_toArray, List.set_cons_zero, List.set_cons_succ, i64_w, i32_w]
    rfl
  refine pure_ (i := 5) (N := some 31) (v := ?_) (a' := ?_) #[true, true, true, true, true, true, false, false, false, false, false, false, false, false] rfl rfl (by kernel_rfl) (fun _ _ _ h => h) (Or.inl ⟨by rfl, ?_⟩) ?_ ?_
  rotate_left
  · intro w'
    go_simp
    with_reducible rfl
  rotate_left
  · simp only [Act.put, List.setIfInBounds_toArray, List.set_cons_zero, List.set_cons_succ, i64_w, i32_w]
    rfl
  refine pure_ (i := 6) (N := some 32) (v := ?_) (a' := ?_) #[true, true, true, true, true, true, true, false, false, false, false, false, false, false] rfl rfl (by kernel_rfl) (fun _ _ _ h => h) (Or.inl ⟨by rfl, ?_⟩) ?_ ?_
  rotate_left
  · intro w'
    go_simp
    with_reducible rfl
  rotate_left
  · simp only [Act.put, List.setIfInBounds_toArray, List.set_cons_zero, List.set_cons_succ, i64_w, i32_w]
    rfl
  refine pure_ (i := 7) (N := some 33) (v := ?_) (a' := ?_) #[true, true, true, true, true, true, true, true, false, false, false, false, false, false] rfl rfl (by kernel_rfl) (fun _ _ _ h => h) (Or.inl ⟨by rfl, ?_⟩) ?_ ?_
  rotate_left
  · intro w'
    go_simp
    with_reducible rfl
  rotate_left
  · simp only [Act.put, List.setIfInBounds_toArray, List.set_cons_zero, List.set_cons_succ, i64_w, i32_w]
    rfl
  refine pure_ (i := 8) (N := some 34) (v := ?_) (a' := ?_) #[true, true, true, true, true, true, true, true, true, false, false, false, false, false] rfl rfl (by kernel_rfl) (fun _ _ _ h => h) (Or.inl ⟨by rfl, ?_⟩) ?_ ?_
  rotate_left
  · intro w'
    go_simp
    with_reducible rfl
  rotate_left
  · simp only [Act.put, List.setIfInBounds_toArray, List.set_cons_zero, List.set_cons_succ, i64_w, i32_w]
    rfl
  refine take_ (i := 9) (N := some 35) (v := ?_) (a' := ?_) #[true, true, true, true, true, true, true, true, true, true, false, false, false, false] rfl rfl (by kernel_rfl) (fun _ _ _ h => h) (Or.inl ⟨by rfl, ?_⟩) hHeld ?_ ?_
  rotate_left
  · rintro w' ⟨s0, s1, s2, s3, s4, s5, s6⟩
    go_simp
    with_reducible rfl
  rotate_left
  · simp only [Act.put, List.setIfInBounds_toArray, List.set_cons_zero, List.set_cons_succ, i64_w, i32_w]
    rfl
  refine take_ (i := 10) (N := some 36) (v := ?_) (a' := ?_) #[true, true, true, true, true, true, true, true, true, true, true, false, false, false] rfl rfl (by kernel_rfl) (fun _ _ _ h => h) (Or.inl ⟨by rfl, ?_⟩) hHeld ?_ ?_
  rotate_left
  · rintro w' ⟨s0, s1, s2, s3, s4, s5, s6⟩
    go_simp
    with_reducible rfl
  rotate_left
  · simp only [Act.put, List.setIfInBounds_toArray, List.set_cons_zero, List.set_cons_succ, i64_w, i32_w]
    rfl
  refine one_ (i := 11) (N := some 37) #[true, true, true, true, true, true, true, true, true, true, true, true, false, false] rfl rfl (by kernel_rfl) (by decide) (fun K hK => ?_)
  refine goes_ Try.func29 (by kernel_rfl) rfl #[.agg #[.string k0s, .int .u64 k0n, .int .i64 k0d], .agg #[.string ks, .int .u64 kn, .int .i64 kd]] (by rfl) rfl rfl (by simp only [List.map_toArray, List.map_cons, List.map_nil]; rfl) ?_
  with_reducible refine (ikey_Compare.calls 8 k0s k0n k0d ks kn kd cv _ HCMP.out).mono ?_
  rintro e w3 ⟨rfl, hb⟩
  refine ⟨_, rfl, ?_⟩
  have HBS3 := Aside0.mk (show BS w w3 (Own3 g (.slice Ak nk ck) (.slice Ab nb cb) (.slice Ap np cp)) g base q4 (ks, kn, kd) A7 n7 c7 kl #[.int .i64 r, .int .i64 r, .int .i64 n, .string k0s, .int .u64 k0n, .int .i64 k0d, (.slice Ak nk ck), (.slice Ab nb cb), (.slice Ap np cp)] (.slice Ak nk ck) (.slice Ab nb cb) (.slice Ap np cp) key bytes places from HBS.out.later (below_step (below_drew1 (Below.refl _ _)) hb))
  have HD3 := Aside0.mk (show Below w2.heap.size w2 w3 from below_step (below_drew1 (Below.refl _ _)) hb)
  clear hb
  refine hK.out _ _ ⟨pw_cell_below HD3.out p2, pw_cell_below HD3.out p3, pw_cell_below HD3.out p4, pw_cell_below HD3.out p5, pw_cell_below HD3.out p40, pw_cell_below HD3.out p41, pw_cell_below HD3.out p42⟩ (fun hHeld => ?_)
  clear hK K
  refine norm_ (a' := ?_) ?_ ?_
  rotate_left
  · show Act.put _ (some 37) _ = _
    simp only [Act.put, List.setIfInBounds_toArray, List.set_cons_zero, List.set_cons_succ, i64_w, i32_w]
    rfl
  refine pure_ (i := 12) (N := some 38) (v := ?_) (a' := ?_) #[true, true, true, true, true, true, true, true, true, true, true, true, true, false] rfl rfl (by kernel_rfl) (fun _ _ _ h => h) (Or.inl ⟨by rfl, ?_⟩) ?_ ?_
  rotate_left
  · intro w'
    go_simp
    with_reducible rfl
  rotate_left
  · simp only [Act.put, List.setIfInBounds_toArray, List.set_cons_zero, List.set_cons_succ, i64_w, i32_w]
    rfl
  refine pure_ (i := 13) (N := some 39) (v := ?_) (a' := ?_) #[true, true, true, true, true, true, true, true, true, true, true, true, true, true] rfl rfl (by kernel_rfl) (fun _ _ _ h => h) (Or.inl ⟨by rfl, ?_⟩) ?_ ?_
  rotate_left
  · intro w'
    go_simp
    with_reducible rfl
  rotate_left
  · simp only [Act.put, List.setIfInBounds_toArray, List.set_cons_zero, List.set_cons_succ, i64_w, i32_w]
    rfl
  refine done_ (by kernel_rfl) ?_
  have HBS := HBS3
  clear p2 p3 p4 p5 p40 p41 p42 hHeld HBS3 HD3 HCMP e0 e0' e1 e1'
  have p2 : w3.cell? ⟨g, 2, none⟩ = some (.int .i64 n) := (blk_cell HBS.out.cell 2).trans rfl
  have p1 : w3.cell? ⟨g, 1, none⟩ = some (.int .i64 r) := (blk_cell HBS.out.cell 1).trans rfl
  have p0 : w3.cell? ⟨g, 0, none⟩ = some (.int .i64 r) := (blk_cell HBS.out.cell 0).trans rfl
  go_wp2_with fail
  refine start_ (n := 16) (S := fun w' => w'.cell? ⟨g, 2, none⟩ = some (.int .i64 n) ∧ w'.cell? ⟨g, 1, none⟩ = some (.int .i64 r) ∧ w'.cell? ⟨g, 0, none⟩ = some (.int .i64 r)) (ds := []) #[false, false, false, false, false, false, false, false, false, false, false, false, false, false, false, false] (by kernel_rfl) rfl rfl ⟨p2, p1, p0⟩ (fun hHeld => ?_)
  refine pure_ (i := 0) (N := some 40) (v := ?_) (a' := ?_) #[true, false, false, false, false, false, false, false, false, false, false, false, false, false, false, false] rfl rfl (by kernel_rfl) (fun _ _ _ h => h) (Or.inl ⟨by rfl, ?_⟩) ?_ ?_
  rotate_left
  · intro w'
    go_simp
    with_reducible rfl
  rotate_left
  · simp only [Act.put, List.setIfInBounds_toArray, List.set_cons_zero, List.set_cons_succ, i64_w, i32_w]
    rfl
  refine pure_ (i := 1) (N := some 41) (v := ?_) (a' := ?_) #[true, true, false, false, false, false, false, false, false, false, false, false, false, false, false, false] rfl rfl (by kernel_rfl) (fun _ _ _ h => h) (Or.inl ⟨by rfl, ?_⟩) ?_ ?_
  rotate_left
  · intro w'
    go_simp
    with_reducible rfl
  rotate_left
  · simp only [Act.put, List.setIfInBounds_toArray, List.set_cons_zero, List.set_cons_succ, i64_w, i32_w]
    rfl
  refine pure_ (i := 2) (N := some 42) (v := ?_) (a' := ?_) #[true, true, true, false, false, false, false, false, false, false, false, false, false, false, false, false] rfl rfl (by kernel_rfl) (fun _ _ _ h => h) (Or.inl ⟨by rfl, ?_⟩) ?_ ?_
  rotate_left
  · intro w'
    go_simp
    with_reducible rfl
  rotate_left
  · simp only [Act.put, List.setIfInBounds_toArray, List.set_cons_zero, List.set_cons_succ, i64_w, i32_w]
    rfl
  refine take_ (i := 3) (N := some 43) (v := ?_) (a' := ?_) #[true, true, true, true, false, false, false, false, false, false, false, false, false, false, false, false] rfl rfl (by kernel_rfl) (fun _ _ _ h => h) (Or.inl ⟨by rfl, ?_⟩) hHeld ?_ ?_
  rotate_left
  · rintro w' ⟨s0, s1, s2⟩
    go_simp
    with_reducible rfl
  rotate_left
  · simp only [Act.put, List.setIfInBounds_toArray, List.set_cons_zero, List.set_cons_succ, i64_w, i32_w]
    rfl
  refine pure_ (i := 4) (N := some 44) (v := ?_) (a' := ?_) #[true, true, true, true, true, false, false, false, false, false, false, false, false, false, false, false] rfl rfl (by kernel_rfl) (fun _ _ _ h => h) (Or.inl ⟨by rfl, ?_⟩) ?_ ?_
  rotate_left
  · intro w'
    go_simp
    with_reducible rfl
  rotate_left
  · simp only [Act.put, List.setIfInBounds_toArray, List.set_cons_zero, List.set_cons_succ, i64_w, i32_w]
    rfl
  refine pure_ (i := 5) (N := some 45) (v := ?_) (a' := ?_) #[true, true, true, true, true, true, false, false, false, false, false, false, false, false, false, false] rfl rfl (by kernel_rfl) (fun _ _ _ h => h) (Or.inl ⟨by rfl, ?_⟩) ?_ ?_
  rotate_left
  · intro w'
    go_simp
    with_reducible rfl
  rotate_left
  · simp only [Act.put, List.setIfInBounds_toArray, List.set_cons_zero, List.set_cons_succ, i64_w, i32_w]
    rfl
  refine pure_ (i := 6) (N := some 46) (v := ?_) (a' := ?_) #[true, true, true, true, true, true, true, false, false, false, false, false, false, false, false, false] rfl rfl (by kernel_rfl) (fun _ _ _ h => h) (Or.inl ⟨by rfl, ?_⟩) ?_ ?_
  rotate_left
  · intro w'
    go_simp
    with_reducible rfl
  rotate_left
  · simp only [Act.put, List.setIfInBounds_toArray, List.set_cons_zero, List.set_cons_succ, i64_w, i32_w]
    rfl
  refine pure_ (i := 7) (N := some 47) (v := ?_) (a' := ?_) #[true, true, true, true, true, true, true, true, false, false, false, false, false, false, false, false] rfl rfl (by kernel_rfl) (fun _ _ _ h => h) (Or.inl ⟨by rfl, ?_⟩) ?_ ?_
  rotate_left
  · intro w'
    go_simp
    with_reducible rfl
  rotate_left
  · simp only [Act.put, List.setIfInBounds_toArray, List.set_cons_zero, List.set_cons_succ, i64_w, i32_w]
    rfl
  refine pure_ (i := 8) (N := some 48) (v := ?_) (a' := ?_) #[true, true, true, true, true, true, true, true, true, false, false, false, false, false, false, false] rfl rfl (by kernel_rfl) (fun _ _ _ h => h) (Or.inl ⟨by rfl, ?_⟩) ?_ ?_
  rotate_left
  · intro w'
    go_simp
    with_reducible rfl
  rotate_left
  · simp only [Act.put, List.setIfInBounds_toArray, List.set_cons_zero, List.set_cons_succ, i64_w, i32_w]
    rfl
  refine pure_ (i := 10) (N := some 50) (v := ?_) (a' := ?_) #[true, true, true, true, true, true, true, true, true, false, true, false, false, false, false, false] rfl rfl (by kernel_rfl) (fun _ _ _ h => h) (Or.inl ⟨by rfl, ?_⟩) ?_ ?_
  rotate_left
  · intro w'
    go_simp
    with_reducible rfl
  rotate_left
  · simp only [Act.put, List.setIfInBounds_toArray, List.set_cons_zero, List.set_cons_succ, i64_w, i32_w]
    rfl
  refine pure_ (i := 11) (N := some 51) (v := ?_) (a' := ?_) #[true, true, true, true, true, true, true, true, true, false, true, true, false, false, false, false] rfl rfl (by kernel_rfl) (fun _ _ _ h => h) (Or.inl ⟨by rfl, ?_⟩) ?_ ?_
  rotate_left
  · intro w'
    go_simp
    with_reducible rfl
  rotate_left
  · simp only [Act.put, List.setIfInBounds_toArray, List.set_cons_zero, List.set_cons_succ, i64_w, i32_w]
    rfl
  refine pure_ (i := 12) (N := some 52) (v := ?_) (a' := ?_) #[true, true, true, true, true, true, true, true, true, false, true, true, true, false, false, false] rfl rfl (by kernel_rfl) (fun _ _ _ h => h) (Or.inl ⟨by rfl, ?_⟩) ?_ ?_
  rotate_left
  · intro w'
    go_simp
    with_reducible rfl
  rotate_left
  · simp only [Act.put, List.setIfInBounds_toArray, List.set_cons_zero, List.set_cons_succ, i64_w, i32_w]
    rfl
  refine take_ (i := 9) (N := some 49) (v := ?_) (a' := ?_) #[true, true, true, true, true, true, true, true, true, true, true, true, true, false, false, false] rfl rfl (by kernel_rfl) (fun _ _ _ h => h) (Or.inl ⟨by rfl, ?_⟩) hHeld ?_ ?_
  rotate_left
  · rintro w' ⟨s0, s1, s2⟩
    go_simp
    with_reducible rfl
  rotate_left
  · simp only [Act.put, List.setIfInBounds_toArray, List.set_cons_zero, List.set_cons_succ, i64_w, i32_w]
    rfl
  refine take_ (i := 13) (N := some 53) (v := ?_) (a' := ?_) #[true, true, true, true, true, true, true, true, true, true, true, true, true, true, false, false] rfl rfl (by kernel_rfl) (fun _ _ _ h => h) (Or.inl ⟨by rfl, ?_⟩) hHeld ?_ ?_
  rotate_left
  · rintro w' ⟨s0, s1, s2⟩
    go_simp
    with_reducible rfl
  rotate_left
  · simp only [Act.put, List.setIfInBounds_toArray, List.set_cons_zero, List.set_cons_succ, i64_w, i32_w]
    rfl
  refine pure_ (i := 14) (N := some 54) (v := ?_) (a' := ?_) #[true, true, true, true, true, true, true, true, true, true, true, true, true, true, true, false] rfl rfl (by kernel_rfl) (fun _ _ _ h => h) (Or.inl ⟨by rfl, ?_⟩) ?_ ?_
  rotate_left
  · intro w'
    go_simp
    with_reducible rfl
  rotate_left
  · simp only [Act.put, List.setIfInBounds_toArray, List.set_cons_zero, List.set_cons_succ, i64_w, i32_w]
    rfl
  refine pure_ (i := 15) (N := some 55) (v := ?_) (a' := ?_) #[true, true, true, true, true, true, true, true, true, true, true, true, true, true, true, true] rfl rfl (by kernel_rfl) (fun _ _ _ h => h) (Or.inl ⟨by rfl, ?_⟩) ?_ ?_
  rotate_left
  · intro w'
    go_simp
    with_reducible rfl
  rotate_left
  · simp only [Act.put, List.setIfInBounds_toArray, List.set_cons_zero, List.set_cons_succ, i64_w, i32_w]
    rfl
  refine done_ (by kernel_rfl) ?_
  clear p2 p1 p0 hHeld
  generalize hw4 : w3.drew = w4
  have HBS := Aside0.mk (show BS w w4 (Own3 g (.slice Ak nk ck) (.slice Ab nb cb) (.slice Ap np cp)) g base q4 (ks, kn, kd) A7 n7 c7 kl #[.int .i64 r, .int .i64 r, .int .i64 n, .string k0s, .int .u64 k0n, .int .i64 k0d, (.slice Ak nk ck), (.slice Ab nb cb), (.slice Ap np cp)] (.slice Ak nk ck) (.slice Ab nb cb) (.slice Ap np cp) key bytes places by rw [← hw4]; exact HBS.out.later (below_drew1 (Below.refl _ _)))
  clear hw4
  clear e2
  have p8 : w4.cell? ⟨g, 8, none⟩ = some (.slice Ap np cp) := (blk_cell HBS.out.cell 8).trans rfl
  have p7 : w4.cell? ⟨g, 7, none⟩ = some (.slice Ab nb cb) := (blk_cell HBS.out.cell 7).trans rfl
  have HI := Aside0.mk (show (Try.prog.info? 3).map (fun i => (i.zero, i.size, i.bytes)) = some (some (.int .i64 0), 1, 8) from by kernel_rfl)
  go_wp2_with fail
  refine start_ (n := 15) (S := fun w' => w'.cell? ⟨g, 8, none⟩ = some (.slice Ap np cp) ∧ w'.cell? ⟨g, 7, none⟩ = some (.slice Ab nb cb)) (ds := [14]) #[false, false, false, false, false, false, false, false, false, false, false, false, false, false, false] (by kernel_rfl) rfl rfl ⟨p8, p7⟩ (fun hHeld => ?_)
  refine pure_ (i := 0) (N := some 56) (v := ?_) (a' := ?_) #[true, false, false, false, false, false, false, false, false, false, false, false, false, false, false] rfl rfl (by kernel_rfl) (fun _ _ _ h => h) (Or.inl ⟨by rfl, ?_⟩) ?_ ?_
  rotate_left
  · intro w'
    go_simp
    with_reducible rfl
  rotate_left
  · simp only [Act.put, List.setIfInBounds_toArray, List.set_cons_zero, List.set_cons_succ, i64_w, i32_w]
    rfl
  refine pure_ (i := 1) (N := some 57) (v := ?_) (a' := ?_) #[true, true, false, false, false, false, false, false, false, false, false, false, false, false, false] rfl rfl (by kernel_rfl) (fun _ _ _ h => h) (Or.inl ⟨by rfl, ?_⟩) ?_ ?_
  rotate_left
  · intro w'
    go_simp
    with_reducible rfl
  rotate_left
  · simp only [Act.put, List.setIfInBounds_toArray, List.set_cons_zero, List.set_cons_succ, i64_w, i32_w]
    rfl
  refine pure_ (i := 2) (N := some 58) (v := ?_) (a' := ?_) #[true, true, true, false, false, false, false, false, false, false, false, false, false, false, false] rfl rfl (by kernel_rfl) (fun _ _ _ h => h) (Or.inl ⟨by rfl, ?_⟩) ?_ ?_
  rotate_left
  · intro w'
    go_simp
    with_reducible rfl
  rotate_left
  · simp only [Act.put, List.setIfInBounds_toArray, List.set_cons_zero, List.set_cons_succ, i64_w, i32_w]
    rfl
  refine pure_ (i := 3) (N := some 59) (v := ?_) (a' := ?_) #[true, true, true, true, false, false, false, false, false, false, false, false, false, false, false] rfl rfl (by kernel_rfl) (fun _ _ _ h => h) (Or.inl ⟨by rfl, ?_⟩) ?_ ?_
  rotate_left
  · intro w'
    go_simp
    with_reducible rfl
  rotate_left
  · simp only [Act.put, List.setIfInBounds_toArray, List.set_cons_zero, List.set_cons_succ, i64_w, i32_w]
    rfl
  refine pure_ (i := 5) (N := some 61) (v := ?_) (a' := ?_) #[true, true, true, true, false, true, false, false, false, false, false, false, false, false, false] rfl rfl (by kernel_rfl) (fun _ _ _ h => h) (Or.inl ⟨by rfl, ?_⟩) ?_ ?_
  rotate_left
  · intro w'
    go_simp
    with_reducible rfl
  rotate_left
  · simp only [Act.put, List.setIfInBounds_toArray, List.set_cons_zero, List.set_cons_succ, i64_w, i32_w]
    rfl
  refine pure_ (i := 6) (N := some 62) (v := ?_) (a' := ?_) #[true, true, true, true, false, true, true, false, false, false, false, false, false, false, false] rfl rfl (by kernel_rfl) (fun _ _ _ h => h) (Or.inl ⟨by rfl, ?_⟩) ?_ ?_
  rotate_left
  · intro w'
    go_simp
    with_reducible rfl
  rotate_left
  · simp only [Act.put, List.setIfInBounds_toArray, List.set_cons_zero, List.set_cons_succ, i64_w, i32_w]
    rfl
  refine pure_ (i := 7) (N := some 63) (v := ?_) (a' := ?_) #[true, true, true, true, false, true, true, true, false, false, false, false, false, false, false] rfl rfl (by kernel_rfl) (fun _ _ _ h => h) (Or.inl ⟨by rfl, ?_⟩) ?_ ?_
  rotate_left
  · intro w'
    go_simp
    with_reducible rfl
  rotate_left
  · simp only [Act.put, List.setIfInBounds_toArray, List.set_cons_zero, List.set_cons_succ, i64_w, i32_w]
    rfl
  refine take_ (i := 4) (N := some 60) (v := ?_) (a' := ?_) #[true, true, true, true, true, true, true, true, false, false, false, false, false, false, false] rfl rfl (by kernel_rfl) (fun _ _ _ h => h) (Or.inl ⟨by rfl, ?_⟩) hHeld ?_ ?_
  rotate_left
  · rintro w' ⟨s0, s1⟩
    go_simp
    with_reducible rfl
  rotate_left
  · simp only [Act.put, List.setIfInBounds_toArray, List.set_cons_zero, List.set_cons_succ, i64_w, i32_w]
    rfl
  refine take_ (i := 8) (N := some 64) (v := ?_) (a' := ?_) #[true, true, true, true, true, true, true, true, true, false, false, false, false, false, false] rfl rfl (by kernel_rfl) (fun _ _ _ h => h) (Or.inl ⟨by rfl, ?_⟩) hHeld ?_ ?_
  rotate_left
  · rintro w' ⟨s0, s1⟩
    go_simp
    with_reducible rfl
  rotate_left
  · simp only [Act.put, List.setIfInBounds_toArray, List.set_cons_zero, List.set_cons_succ, i64_w, i32_w]
    rfl
  refine pure_ (i := 9) (N := some 65) (v := ?_) (a' := ?_) #[true, true, true, true, true, true, true, true, true, true, false, false, false, false, false] rfl rfl (by kernel_rfl) (fun _ _ _ h => h) (Or.inl ⟨by rfl, ?_⟩) ?_ ?_
  rotate_left
  · intro w'
    go_simp
    with_reducible rfl
  rotate_left
  · simp only [Act.put, List.setIfInBounds_toArray, List.set_cons_zero, List.set_cons_succ, i64_w, i32_w]
    rfl
  refine one_ (i := 10) (N := some 66) #[true, true, true, true, true, true, true, true, true, true, true, false, false, false, false] rfl rfl (by kernel_rfl) (by decide) (fun K hK => ?_)
  refine value_ (w1 := ?_) (v := ?_) (by rfl) rfl ?_ ?_
  rotate_left 2
  · go_simp
    constructor
    · rfl
    · rfl
  refine hK.out _ _ ⟨(pw_cell_below (below_alloc (Below.refl _ _) _) p8), (pw_cell_below (below_alloc (Below.refl _ _) _) p7)⟩ (fun hHeld => ?_)
  clear hK K
  refine norm_ (a' := ?_) ?_ ?_
  rotate_left
  · show Act.put _ (some 66) _ = _
    simp only [Act.put, List.setIfInBounds_toArray, List.set_cons_zero, List.set_cons_succ, i64_w, i32_w]
    rfl
  refine one_ (i := 11) (N := some 67) #[true, true, true, true, true, true, true, true, true, true, true, true, false, false, false] rfl rfl (by kernel_rfl) (by decide) (fun K hK => ?_)
  refine Kd.R_append_step (Kd.int .i64) (w0 := w) (W := w4.drew) base (by rfl) (.tmp 60) (.tmp 66) 43 3 (.int .i64 0) 8 rfl Try.underlying43 HI.out rfl (by decide) (by decide) (.slice Ap np cp) places (nb : Int) [.int .i64 (nb : Int)] (fun _ => True) (fun _ => False) rfl rfl rfl (fun q hq => hq.elim) (fun _ _ => trivial) (HBS.out.later (below_drew1 (Below.refl _ _))).places (HBS.out.later (below_drew1 (Below.refl _ _))).below (by have h1 := HBS.out.bw; have h2 := HBS.out.kept.1; exact Nat.le_trans h1 h2) (by have := HNP.out; omega) ?_
  intro v1 w5 ho hb hg hat
  obtain ⟨b2, c2, rfl, _, _, _⟩ := Kd.R_form ho (by simp)
  obtain ⟨np1, hnp1⟩ : ∃ x, (places ++ [(nb : Int)]).length = x := ⟨_, rfl⟩
  rw [hnp1] at ho hat ⊢
  have HBS5 := Aside0.mk (show BS w w5 (Own3 g (.slice Ak nk ck) (.slice Ab nb cb) (.slice Ap np cp)) g base q4 (ks, kn, kd) A7 n7 c7 kl #[.int .i64 r, .int .i64 r, .int .i64 n, .string k0s, .int .u64 k0n, .int .i64 k0d, (.slice Ak nk ck), (.slice Ab nb cb), (.slice Ap np cp)] (.slice Ak nk ck) (.slice Ab nb cb) (.slice (some ⟨b2, 0, none⟩) np1 c2) key bytes (places ++ [(nb : Int)]) from (HBS.out.later (below_drew1 (Below.refl _ _))).grownP hg ho hat)
  have t8 : w5.cell? ⟨g, 8, none⟩ = some (.slice Ap np cp) := (blk_cell HBS5.out.cell 8).trans rfl
  have t7 : w5.cell? ⟨g, 7, none⟩ = some (.slice Ab nb cb) := (blk_cell HBS5.out.cell 7).trans rfl
  have f8 := blk_frozen HBS5.out.cell 8
  clear ho hb hg hat hnp1
  refine hK.out _ _ ⟨t8, t7⟩ (fun hHeld => ?_)
  clear hK K
  refine norm_ (a' := ?_) ?_ ?_
  rotate_left
  · show Act.put _ (some 67) _ = _
    simp only [Act.put, List.setIfInBounds_toArray, List.set_cons_zero, List.set_cons_succ, i64_w, i32_w]
    rfl
  refine pure_ (i := 12) (N := some 68) (v := ?_) (a' := ?_) #[true, true, true, true, true, true, true, true, true, true, true, true, true, false, false] rfl rfl (by kernel_rfl) (fun _ _ _ h => h) (Or.inl ⟨by rfl, ?_⟩) ?_ ?_
  rotate_left
  · intro w'
    go_simp
    with_reducible rfl
  rotate_left
  · simp only [Act.put, List.setIfInBounds_toArray, List.set_cons_zero, List.set_cons_succ, i64_w, i32_w]
    rfl
  refine pure_ (i := 13) (N := some 69) (v := ?_) (a' := ?_) #[true, true, true, true, true, true, true, true, true, true, true, true, true, true, false] rfl rfl (by kernel_rfl) (fun _ _ _ h => h) (Or.inl ⟨by rfl, ?_⟩) ?_ ?_
  rotate_left
  · intro w'
    go_simp
    with_reducible rfl
  rotate_left
  · simp only [Act.put, List.setIfInBounds_toArray, List.set_cons_zero, List.set_cons_succ, i64_w, i32_w]
    rfl
  refine last_ (i := 14) (N := none) #[true, true, true, true, true, true, true, true, true, true, true, true, true, true, true] rfl rfl (by kernel_rfl) (by decide) (fun K hK => ?_)
  refine skip_ (w1 := ?_) (by rfl) rfl ?_ ?_
  rotate_left
  · go_simp
    rfl
  generalize hW6 : w5.setCell _ _ = w6
  have HBS6 := Aside0.mk (show BS w w6 (Own3 g (.slice Ak nk ck) (.slice Ab nb cb) (.slice Ap np cp)) g base q4 (ks, kn, kd) A7 n7 c7 kl #[.int .i64 r, .int .i64 r, .int .i64 n, .string k0s, .int .u64 k0n, .int .i64 k0d, (.slice Ak nk ck), (.slice Ab nb cb), (.slice (some ⟨b2, 0, none⟩) np1 c2)] (.slice Ak nk ck) (.slice Ab nb cb) (.slice (some ⟨b2, 0, none⟩) np1 c2) key bytes (places ++ [(nb : Int)]) by rw [← hW6]; exact HBS5.out.put 8 _)
  clear hW6
  refine hK.out _ _ ?_
  clear hK K
  refine done_ (by kernel_rfl) ?_
  have HBS := HBS6
  clear p8 p7 hHeld HBS5 HBS6 t8 t7 f8 HI
  have p1 : w6.cell? ⟨g, 1, none⟩ = some (.int .i64 r) := (blk_cell HBS.out.cell 1).trans rfl
  have f1 := blk_frozen HBS.out.cell 1
  have hn71 : n7 ≤ 1032 := HKL2.out
  go_wp2_with fail
  generalize hW7 : w6.setCell _ _ = w7
  have HBS := Aside0.mk (show BS w w7 (Own3 g (.slice Ak nk ck) (.slice Ab nb cb) (.slice Ap np cp)) g base q4 (ks, kn, kd) A7 n7 c7 kl #[.int .i64 r, .int .i64 0, .int .i64 n, .string k0s, .int .u64 k0n, .int .i64 k0d, (.slice Ak nk ck), (.slice Ab nb cb), (.slice (some ⟨b2, 0, none⟩) np1 c2)] (.slice Ak nk ck) (.slice Ab nb cb) (.slice (some ⟨b2, 0, none⟩) np1 c2) key bytes (places ++ [(nb : Int)]) by rw [← hW7]; exact HBS.out.put 1 _)
  clear hW7 p1 f1
  have HI := Aside0.mk (show (Try.prog.info? 5).map (fun i => (i.zero, i.size, i.bytes)) = some (some (.int .u8 0), 1, 1) from by kernel_rfl)
  go_loopg [87] 4 (fun kq v87 wr => ∃ (j : Nat) (A1 : Option Addr) (n1 c1 : Nat), v87 = .int .i64 (j : Int) ∧ j ≤ 3 ∧ 3 - j < kq ∧ Aside0 (BS w wr (Own3 g (.slice Ak nk ck) (.slice Ab nb cb) (.slice Ap np cp)) g base q4 (ks, kn, kd) A7 n7 c7 kl #[.int .i64 r, .int .i64 0, .int .i64 n, .string k0s, .int .u64 k0n, .int .i64 k0d, (.slice Ak nk ck), (.slice A1 n1 c1), (.slice (some ⟨b2, 0, none⟩) np1 c2)] (.slice Ak nk ck) (.slice A1 n1 c1) (.slice (some ⟨b2, 0, none⟩) np1 c2) key (putJ bytes 0 (n7 : Int) (v.size : Int) j) (places ++ [(nb : Int)])))
  case atStart => exact ⟨0, Ab, nb, cb, rfl, by omega, by omega, ⟨HBS.out⟩⟩
  case round =>
    clear HBS
    obtain ⟨j, A1, n1, c1, rfl, hj3, hkq, HBS⟩ := hrel
    cases gk with
    | zero => omega
    | succ gk1 =>
    have HN1 := Aside0.mk (Kd.R_reads' HBS.out.bytes).1
    have HC1 := Aside0.mk (Kd.R_reads' HBS.out.bytes).2
    have HL1 := Aside0.mk (show (putJ bytes 0 (n7 : Int) (v.size : Int) j).length ≤ nb + 30 by have h1 := putJ_len bytes 0 (n7 : Int) (v.size : Int) j; have h2 := HNB.out; omega)
    by_cases hj0 : j = 0
    · subst hj0
      rw [show ((0 : Nat) : Int) = 0 from rfl]
      have p7 : wr.cell? ⟨g, 7, none⟩ = some (.slice A1 n1 c1) := (blk_cell HBS.out.cell 7).trans rfl
      have hu : IntKind.u64.wrap 0 = 0 := by rw [Go.IntKind.wrap_u64]; omega
      have hix := idx0 (.int .i64 0) (.int .i64 (n7 : Int)) (.int .i64 (v.size : Int))
      have HPV := Aside0.mk (codec_PutVarint.calls 16 A1 c1 (putJ bytes 0 (n7 : Int) (v.size : Int) 0) 0 (putJ bytes 0 (n7 : Int) (v.size : Int) 1) wr HC1.out.2 (by have h1 := HC1.out.1; have h2 := HN1.out; omega) (PutVarint_eq 16 _ 0 (by omega) (by have := HSZ.out; omega) (by have := HL1.out; omega) (by omega)))
      rw [← HN1.out] at HPV
      have HKQ := Aside0.mk hkq
      clear hkq hj3
      go_wp2_with fail
      (with_reducible refine HPV.out.mono ?_)
      rintro e wx ⟨v', rfl, hr', hb'⟩
      obtain ⟨A2, c2', rfl, _, _⟩ := Kd.R_reads hr'
      obtain ⟨n2, hn2⟩ : ∃ x, (putJ bytes 0 (n7 : Int) (v.size : Int) 1).length = x := ⟨_, rfl⟩
      rw [hn2] at hr' ⊢
      have p7x : wx.cell? ⟨g, 7, none⟩ = some (.slice A1 n1 c1) := (blk_cell (HBS.out.later hb').cell 7).trans rfl
      have f7x := blk_frozen (HBS.out.later hb').cell 7
      have HBX := Aside0.mk (HBS.out.newB hb' hr')
      clear hr' hb' hn2 p7 HPV hu hix
      go_wp2
      generalize hWY : wx.setCell _ _ = wy
      have HBY := Aside0.mk (show BS w wy (Own3 g (.slice Ak nk ck) (.slice Ab nb cb) (.slice Ap np cp)) g base q4 (ks, kn, kd) A7 n7 c7 kl #[.int .i64 r, .int .i64 0, .int .i64 n, .string k0s, .int .u64 k0n, .int .i64 k0d, (.slice Ak nk ck), (.slice A2 n2 c2'), (.slice (some ⟨b2, 0, none⟩) np1 c2)] (.slice Ak nk ck) (.slice A2 n2 c2') (.slice (some ⟨b2, 0, none⟩) np1 c2) key (putJ bytes 0 (n7 : Int) (v.size : Int) 1) (places ++ [(nb : Int)]) by rw [← hWY]; exact HBX.out.put 7 _)
      clear hWY
      go_roundg gk1
      case measure => have := HKQ.out; omega
      case rel => exact ⟨1, A2, n2, c2', rfl, by omega, by have := HKQ.out; omega, HBY⟩
    by_cases hj1 : j = 1
    · subst hj1
      rw [show ((1 : Nat) : Int) = 1 from rfl]
      have p7 : wr.cell? ⟨g, 7, none⟩ = some (.slice A1 n1 c1) := (blk_cell HBS.out.cell 7).trans rfl
      have hu : IntKind.u64.wrap (n7 : Int) = (n7 : Int) := by rw [Go.IntKind.wrap_u64]; omega
      have hix := idx1 (.int .i64 0) (.int .i64 (n7 : Int)) (.int .i64 (v.size : Int))
      have HPV := Aside0.mk (codec_PutVarint.calls 16 A1 c1 (putJ bytes 0 (n7 : Int) (v.size : Int) 1) (n7 : Int) (putJ bytes 0 (n7 : Int) (v.size : Int) 2) wr HC1.out.2 (by have h1 := HC1.out.1; have h2 := HN1.out; omega) (PutVarint_eq 16 _ (n7 : Int) (by omega) (by have := HSZ.out; omega) (by have := HL1.out; omega) (by omega)))
      rw [← HN1.out] at HPV
      have HKQ := Aside0.mk hkq
      clear hkq hj3 hj0
      go_wp2_with fail
      (with_reducible refine HPV.out.mono ?_)
      rintro e wx ⟨v', rfl, hr', hb'⟩
      obtain ⟨A2, c2', rfl, _, _⟩ := Kd.R_reads hr'
      obtain ⟨n2, hn2⟩ : ∃ x, (putJ bytes 0 (n7 : Int) (v.size : Int) 2).length = x := ⟨_, rfl⟩
      rw [hn2] at hr' ⊢
      have p7x : wx.cell? ⟨g, 7, none⟩ = some (.slice A1 n1 c1) := (blk_cell (HBS.out.later hb').cell 7).trans rfl
      have f7x := blk_frozen (HBS.out.later hb').cell 7
      have HBX := Aside0.mk (HBS.out.newB hb' hr')
      clear hr' hb' hn2 p7 HPV hu hix
      go_wp2
      generalize hWY : wx.setCell _ _ = wy
      have HBY := Aside0.mk (show BS w wy (Own3 g (.slice Ak nk ck) (.slice Ab nb cb) (.slice Ap np cp)) g base q4 (ks, kn, kd) A7 n7 c7 kl #[.int .i64 r, .int .i64 0, .int .i64 n, .string k0s, .int .u64 k0n, .int .i64 k0d, (.slice Ak nk ck), (.slice A2 n2 c2'), (.slice (some ⟨b2, 0, none⟩) np1 c2)] (.slice Ak nk ck) (.slice A2 n2 c2') (.slice (some ⟨b2, 0, none⟩) np1 c2) key (putJ bytes 0 (n7 : Int) (v.size : Int) 2) (places ++ [(nb : Int)]) by rw [← hWY]; exact HBX.out.put 7 _)
      clear hWY
      go_roundg gk1
      case measure => have := HKQ.out; omega
      case rel => exact ⟨2, A2, n2, c2', rfl, by omega, by have := HKQ.out; omega, HBY⟩
    by_cases hj2 : j = 2
    · subst hj2
      rw [show ((2 : Nat) : Int) = 2 from rfl]
      have p7 : wr.cell? ⟨g, 7, none⟩ = some (.slice A1 n1 c1) := (blk_cell HBS.out.cell 7).trans rfl
      have hu : IntKind.u64.wrap (v.size : Int) = (v.size : Int) := by rw [Go.IntKind.wrap_u64]; have := HSZ.out; omega
      have hix := idx2 (.int .i64 0) (.int .i64 (n7 : Int)) (.int .i64 (v.size : Int))
      have HPV := Aside0.mk (codec_PutVarint.calls 16 A1 c1 (putJ bytes 0 (n7 : Int) (v.size : Int) 2) (v.size : Int) (putJ bytes 0 (n7 : Int) (v.size : Int) 3) wr HC1.out.2 (by have h1 := HC1.out.1; have h2 := HN1.out; omega) (PutVarint_eq 16 _ (v.size : Int) (by omega) (by have := HSZ.out; omega) (by have := HL1.out; omega) (by omega)))
      rw [← HN1.out] at HPV
      have HKQ := Aside0.mk hkq
      clear hkq hj3 hj0 hj1
      go_wp2_with fail
      (with_reducible refine HPV.out.mono ?_)
      rintro e wx ⟨v', rfl, hr', hb'⟩
      obtain ⟨A2, c2', rfl, _, _⟩ := Kd.R_reads hr'
      obtain ⟨n2, hn2⟩ : ∃ x, (putJ bytes 0 (n7 : Int) (v.size : Int) 3).length = x := ⟨_, rfl⟩
      rw [hn2] at hr' ⊢
      have p7x : wx.cell? ⟨g, 7, none⟩ = some (.slice A1 n1 c1) := (blk_cell (HBS.out.later hb').cell 7).trans rfl
      have f7x := blk_frozen (HBS.out.later hb').cell 7
      have HBX := Aside0.mk (HBS.out.newB hb' hr')
      clear hr' hb' hn2 p7 HPV hu hix
      go_wp2
      generalize hWY : wx.setCell _ _ = wy
      have HBY := Aside0.mk (show BS w wy (Own3 g (.slice Ak nk ck) (.slice Ab nb cb) (.slice Ap np cp)) g base q4 (ks, kn, kd) A7 n7 c7 kl #[.int .i64 r, .int .i64 0, .int .i64 n, .string k0s, .int .u64 k0n, .int .i64 k0d, (.slice Ak nk ck), (.slice A2 n2 c2'), (.slice (some ⟨b2, 0, none⟩) np1 c2)] (.slice Ak nk ck) (.slice A2 n2 c2') (.slice (some ⟨b2, 0, none⟩) np1 c2) key (putJ bytes 0 (n7 : Int) (v.size : Int) 3) (places ++ [(nb : Int)]) by rw [← hWY]; exact HBX.out.put 7 _)
      clear hWY
      go_roundg gk1
      case measure => have := HKQ.out; omega
      case rel => exact ⟨3, A2, n2, c2', rfl, by omega, by have := HKQ.out; omega, HBY⟩
    obtain rfl : j = 3 := by omega
    rw [show ((3 : Nat) : Int) = 3 from rfl]
    clear hkq hj3 hj0 hj1 hj2
    obtain ⟨i0, hi0, _, hsz0, _⟩ := info_parts HI.out
    have hcut := cut_from (P := Try.prog) 23 5 .i64 Try.underlying23 hi0 1 hsz0 A7 n7 c7 0 (by omega) (by omega)
    rw [show (0 : Int).toNat = 0 from rfl] at hcut
    obtain ⟨A8, hA8⟩ : ∃ x, (if c7 = 0 then A7 else A7.map (·.add (0 * 1))) = x := ⟨_, rfl⟩
    obtain ⟨m8, hm8⟩ : ∃ x, n7 - 0 = x := ⟨_, rfl⟩
    obtain ⟨c8, hc8⟩ : ∃ x, c7 - 0 = x := ⟨_, rfl⟩
    rw [hA8, hm8, hc8] at hcut
    have HC8 := Aside0.mk (show ∀ X, Kd.R (Kd.int .u8) 5 X base (fun _ => True) (.slice A7 n7 c7) kl → Kd.C (Kd.int .u8) X A8 m8 (kl.drop 0) from fun X h => by
      have h2 := Kd.R_reads' h
      have h3 := Kd.C_drop (c := c7) (m := 0) h2.2.2 (by have := HN7.out; omega) (by have := HN7.out; have := HC7.out; omega)
      rw [List.length_drop, HN7.out, hm8] at h3
      rw [← hA8]
      exact h3)
    have HM8 := Aside0.mk (show m8 ≤ 1032 by have := HKL2.out; omega)
    have p7 : wr.cell? ⟨g, 7, none⟩ = some (.slice A1 n1 c1) := (blk_cell HBS.out.cell 7).trans rfl
    clear hA8 hm8 hc8 hi0 hsz0
    go_wp2_with fail
    refine start_ (n := 14) (S := fun w' => w'.cell? ⟨g, 7, none⟩ = some (.slice A1 n1 c1)) (ds := [13]) #[false, false, false, false, false, false, false, false, false, false, false, false, false, false] (by kernel_rfl) rfl rfl (p7) (fun hHeld => ?_)
    refine pure_ (i := 0) (N := some 101) (v := ?_) (a' := ?_) #[true, false, false, false, false, false, false, false, false, false, false, false, false, false] rfl rfl (by kernel_rfl) (fun _ _ _ h => h) (Or.inl ⟨by rfl, ?_⟩) ?_ ?_
    rotate_left
    · intro w'
      go_simp
      with_reducible rfl
    rotate_left
    · simp only [Act.put, List.setIfInBounds_toArray, List.set_cons_zero, List.set_cons_succ, i64_w, i32_w]
      rfl
    refine pure_ (i := 1) (N := some 102) (v := ?_) (a' := ?_) #[true, true, false, false, false, false, false, false, false, false, false, false, false, false] rfl rfl (by kernel_rfl) (fun _ _ _ h => h) (Or.inl ⟨by rfl, ?_⟩) ?_ ?_
    rotate_left
    · intro w'
      go_simp
      with_reducible rfl
    rotate_left
    · simp only [Act.put, List.setIfInBounds_toArray, List.set_cons_zero, List.set_cons_succ, i64_w, i32_w]
      rfl
    refine pure_ (i := 2) (N := some 103) (v := ?_) (a' := ?_) #[true, true, true, false, false, false, false, false, false, false, false, false, false, false] rfl rfl (by kernel_rfl) (fun _ _ _ h => h) (Or.inl ⟨by rfl, ?_⟩) ?_ ?_
    rotate_left
    · intro w'
      go_simp
      with_reducible rfl
    rotate_left
    · simp only [Act.put, List.setIfInBounds_toArray, List.set_cons_zero, List.set_cons_succ, i64_w, i32_w]
      rfl
    refine pure_ (i := 3) (N := some 104) (v := ?_) (a' := ?_) #[true, true, true, true, false, false, false, false, false, false, false, false, false, false] rfl rfl (by kernel_rfl) (fun _ _ _ h => h) (Or.inl ⟨by rfl, ?_⟩) ?_ ?_
    rotate_left
    · intro w'
      go_simp
      with_reducible rfl
    rotate_left
    · simp only [Act.put, List.setIfInBounds_toArray, List.set_cons_zero, List.set_cons_succ, i64_w, i32_w]
      rfl
    refine pure_ (i := 5) (N := some 106) (v := ?_) (a' := ?_) #[true, true, true, true, false, true, false, false, false, false, false, false, false, false] rfl rfl (by kernel_rfl) (fun _ _ _ h => h) (Or.inl ⟨by rfl, ?_⟩) ?_ ?_
    rotate_left
    · intro w'
      go_simp
      with_reducible rfl
    rotate_left
    · simp only [Act.put, List.setIfInBounds_toArray, List.set_cons_zero, List.set_cons_succ, i64_w, i32_w]
      rfl
    refine pure_ (i := 6) (N := some 107) (v := ?_) (a' := ?_) #[true, true, true, true, false, true, true, false, false, false, false, false, false, false] rfl rfl (by kernel_rfl) (fun _ _ _ h => h) (Or.inl ⟨by rfl, ?_⟩) ?_ ?_
    rotate_left
    · intro w'
      go_simp
      with_reducible rfl
    rotate_left
    · simp only [Act.put, List.setIfInBounds_toArray, List.set_cons_zero, List.set_cons_succ, i64_w, i32_w]
      rfl
    refine pure_ (i := 7) (N := some 108) (v := ?_) (a' := ?_) #[true, true, true, true, false, true, true, true, false, false, false, false, false, false] rfl rfl (by kernel_rfl) (fun _ _ _ h => h) (Or.inl ⟨by rfl, ?_⟩) ?_ ?_
    rotate_left
    · intro w'
      go_simp
      with_reducible rfl
    rotate_left
    · simp only [Act.put, List.setIfInBounds_toArray, List.set_cons_zero, List.set_cons_succ, i64_w, i32_w]
      rfl
    refine pure_ (i := 9) (N := some 110) (v := ?_) (a' := ?_) #[true, true, true, true, false, true, true, true, false, true, false, false, false, false] rfl rfl (by kernel_rfl) (fun _ _ _ h => h) (Or.inl ⟨by rfl, ?_⟩) ?_ ?_
    rotate_left
    · intro w'
      go_simp
      with_reducible rfl
    rotate_left
    · simp only [Act.put, List.setIfInBounds_toArray, List.set_cons_zero, List.set_cons_succ, i64_w, i32_w]
      rfl
    refine take_ (i := 4) (N := some 105) (v := ?_) (a' := ?_) #[true, true, true, true, true, true, true, true, false, true, false, false, false, false] rfl rfl (by kernel_rfl) (fun _ _ _ h => h) (Or.inl ⟨by rfl, ?_⟩) hHeld ?_ ?_
    rotate_left
    · intro w' s0
      go_simp
      with_reducible rfl
    rotate_left
    · simp only [Act.put, List.setIfInBounds_toArray, List.set_cons_zero, List.set_cons_succ, i64_w, i32_w]
      rfl
    refine one_ (i := 8) (N := some 109) #[true, true, true, true, true, true, true, true, true, true, false, false, false, false] rfl rfl (by kernel_rfl) (by decide) (fun K hK => ?_)
    refine Kd.R_append_rows_step (Kd.int .u8) (w0 := w) (W := wr.drew) base (by rfl) (.tmp 105) (.tmp 108) 23 5 (.int .u8 0) 1 rfl Try.underlying23 HI.out rfl (by decide) (by decide) (.slice A1 n1 c1) (putJ bytes 0 (n7 : Int) (v.size : Int) 3) (kl.drop 0) A8 m8 c8 (fun _ => True) (fun _ => False) rfl rfl (HBS.out.later (below_drew1 (Below.refl _ _))).bytes (HC8.out _ (HBS.out.later (below_drew1 (Below.refl _ _))).row7) (fun _ _ h => h) (fun _ h => h.elim) (fun _ _ => trivial) (HBS.out.later (below_drew1 (Below.refl _ _))).below (by have h1 := HBS.out.bw; have h2 := HBS.out.kept.1; exact Nat.le_trans h1 h2) (by have h1 := HL1.out; have h2 := HM8.out; omega) ?_
    intro v9 w9 ho hb hg hat
    obtain ⟨A9, c9, rfl, _, _⟩ := Kd.R_reads ho
    obtain ⟨n9, hn9⟩ : ∃ x, ((putJ bytes 0 (n7 : Int) (v.size : Int) 3) ++ kl.drop 0).length = x := ⟨_, rfl⟩
    rw [hn9] at ho hat ⊢
    have HN9 := Aside0.mk (show n9 ≤ nb + 1062 by rw [← hn9, List.length_append, List.length_drop]; have h1 := HL1.out; have h2 := HN7.out; have h3 := HKL2.out; omega)
    have HN9b := Aside0.mk hn9
    have HBS9 := Aside0.mk (show BS w w9 (Own3 g (.slice Ak nk ck) (.slice Ab nb cb) (.slice Ap np cp)) g base q4 (ks, kn, kd) A7 n7 c7 kl #[.int .i64 r, .int .i64 0, .int .i64 n, .string k0s, .int .u64 k0n, .int .i64 k0d, (.slice Ak nk ck), (.slice A1 n1 c1), (.slice (some ⟨b2, 0, none⟩) np1 c2)] (.slice Ak nk ck) (.slice A9 n9 c9) (.slice (some ⟨b2, 0, none⟩) np1 c2) key ((putJ bytes 0 (n7 : Int) (v.size : Int) 3) ++ kl.drop 0) (places ++ [(nb : Int)]) from (HBS.out.later (below_drew1 (Below.refl _ _))).grownB hg ho hat)
    have t7 : w9.cell? ⟨g, 7, none⟩ = some (.slice A1 n1 c1) := (blk_cell HBS9.out.cell 7).trans rfl
    clear ho hb hg hat hn9
    refine hK.out _ _ (t7) (fun hHeld => ?_)
    clear hK K
    refine norm_ (a' := ?_) ?_ ?_
    rotate_left
    · show Act.put _ (some 109) _ = _
      simp only [Act.put, List.setIfInBounds_toArray, List.set_cons_zero, List.set_cons_succ, i64_w, i32_w]
      rfl
    refine one_ (i := 10) (N := some 111) #[true, true, true, true, true, true, true, true, true, true, true, false, false, false] rfl rfl (by kernel_rfl) (by decide) (fun K hK => ?_)
    refine R_append_str_step (W := w9) base (by rfl) (.tmp 109) (.tmp 110) 23 9 5 rfl Try.underlying23 Try.underlying9 HI.out (.slice A9 n9 c9) ((putJ bytes 0 (n7 : Int) (v.size : Int) 3) ++ kl.drop 0) v rfl rfl HBS9.out.bytes (by have h1 := HBS9.out.bw; have h2 := HBS9.out.kept.1; exact Nat.le_trans h1 h2) (by rw [HN9b.out]; have h1 := HN9.out; have h2 := HSZ.out; omega) ?_
    intro v10 wA ho hg hat
    obtain ⟨AA, cA, rfl, _, _⟩ := Kd.R_reads ho
    obtain ⟨nA, hnA⟩ : ∃ x, ((putJ bytes 0 (n7 : Int) (v.size : Int) 3) ++ kl.drop 0 ++ bytesOf v).length = x := ⟨_, rfl⟩
    rw [hnA] at ho hat ⊢
    have HBSA := Aside0.mk (show BS w wA (Own3 g (.slice Ak nk ck) (.slice Ab nb cb) (.slice Ap np cp)) g base q4 (ks, kn, kd) A7 n7 c7 kl #[.int .i64 r, .int .i64 0, .int .i64 n, .string k0s, .int .u64 k0n, .int .i64 k0d, (.slice Ak nk ck), (.slice A1 n1 c1), (.slice (some ⟨b2, 0, none⟩) np1 c2)] (.slice Ak nk ck) (.slice AA nA cA) (.slice (some ⟨b2, 0, none⟩) np1 c2) key ((putJ bytes 0 (n7 : Int) (v.size : Int) 3) ++ kl.drop 0 ++ bytesOf v) (places ++ [(nb : Int)]) from HBS9.out.grownB hg ho hat)
    have s7 : wA.cell? ⟨g, 7, none⟩ = some (.slice A1 n1 c1) := (blk_cell HBSA.out.cell 7).trans rfl
    have f7 := blk_frozen HBSA.out.cell 7
    clear ho hg hat hnA
    refine hK.out _ _ (s7) (fun hHeld => ?_)
    clear hK K
    refine norm_ (a' := ?_) ?_ ?_
    rotate_left
    · show Act.put _ (some 111) _ = _
      simp only [Act.put, List.setIfInBounds_toArray, List.set_cons_zero, List.set_cons_succ, i64_w, i32_w]
      rfl
    refine pure_ (i := 11) (N := some 112) (v := ?_) (a' := ?_) #[true, true, true, true, true, true, true, true, true, true, true, true, false, false] rfl rfl (by kernel_rfl) (fun _ _ _ h => h) (Or.inl ⟨by rfl, ?_⟩) ?_ ?_
    rotate_left
    · intro w'
      go_simp
      with_reducible rfl
    rotate_left
    · simp only [Act.put, List.setIfInBounds_toArray, List.set_cons_zero, List.set_cons_succ, i64_w, i32_w]
      rfl
    refine pure_ (i := 12) (N := some 113) (v := ?_) (a' := ?_) #[true, true, true, true, true, true, true, true, true, true, true, true, true, false] rfl rfl (by kernel_rfl) (fun _ _ _ h => h) (Or.inl ⟨by rfl, ?_⟩) ?_ ?_
    rotate_left
    · intro w'
      go_simp
      with_reducible rfl
    rotate_left
    · simp only [Act.put, List.setIfInBounds_toArray, List.set_cons_zero, List.set_cons_succ, i64_w, i32_w]
      rfl
    refine last_ (i := 13) (N := none) #[true, true, true, true, true, true, true, true, true, true, true, true, true, true] rfl rfl (by kernel_rfl) (by decide) (fun K hK => ?_)
    refine skip_ (w1 := ?_) (by rfl) rfl ?_ ?_
    rotate_left
    · go_simp
      rfl
    generalize hWB : wA.setCell _ _ = wB
    have HBSB := Aside0.mk (show BS w wB (Own3 g (.slice Ak nk ck) (.slice Ab nb cb) (.slice Ap np cp)) g base q4 (ks, kn, kd) A7 n7 c7 kl #[.int .i64 r, .int .i64 0, .int .i64 n, .string k0s, .int .u64 k0n, .int .i64 k0d, (.slice Ak nk ck), (.slice AA nA cA), (.slice (some ⟨b2, 0, none⟩) np1 c2)] (.slice Ak nk ck) (.slice AA nA cA) (.slice (some ⟨b2, 0, none⟩) np1 c2) key ((putJ bytes 0 (n7 : Int) (v.size : Int) 3) ++ kl.drop 0 ++ bytesOf v) (places ++ [(nb : Int)]) by rw [← hWB]; exact HBSA.out.put 7 _)
    clear hWB
    refine hK.out _ _ ?_
    clear hK K
    refine done_ (by kernel_rfl) ?_
    have HBS := HBSB
    clear p7 hHeld t7 s7 f7 HBS9 HBSA HBSB HN9 HN9b HC8 HM8 hcut
    have hkc : nk ≤ ck := by have h1 := (Kd.R_reads' HBS.out.key).2.1; have h2 := HNK.out; omega
    obtain ⟨i1, hi1, _, _, _⟩ := info_parts HI.out
    have hcut0 := cut_to (P := Try.prog) 23 5 .i64 Try.underlying23 hi1 Ak nk ck 0 (by omega) (by omega) hkc
    rw [show (0 : Int).toNat = 0 from rfl] at hcut0
    clear hi1 hkc
    have HC7x := Aside0.mk (show ∀ X, Kd.R (Kd.int .u8) 5 X base (fun _ => True) (.slice A7 n7 c7) kl → Kd.C (Kd.int .u8) X A7 n7 kl from fun X h => by have h2 := (Kd.R_reads' h).2.2; rw [HN7.out] at h2; exact h2)
    have HK0 := Aside0.mk (Kd.R_take (m := 0) HBS.out.key (Nat.zero_le _))
    have p6 : wB.cell? ⟨g, 6, none⟩ = some (.slice Ak nk ck) := (blk_cell HBS.out.cell 6).trans rfl
    go_wp2_with (first | ((with_reducible refine gate_builtin (b := .append) (xs := #[.tmp 119, .tmp 121]) rfl ?_); at_builtin; refine Kd.R_append_zeros (Kd.int .u8) (w0 := w) base rfl (.tmp 119) (.tmp 121) 23 3 5 (.int .u8 0) 1 rfl Try.underlying23 Try.underlying3 HI.out rfl (by decide) (by decide) (.slice Ak 0 ck) (key.take 0) (0 : Int) (kx := .i64) (n7 : Int) (fun _ => True) rfl rfl rfl (fun _ _ => trivial) HK0.out (by omega) HBS.out.below (by have h1 := HBS.out.bw; have h2 := HBS.out.kept.1; exact Nat.le_trans h1 h2) (by rw [Int.toNat_natCast, List.take_zero, List.length_nil]; have := HKL2.out; omega) ?_; intro v11 wC ho hb hg hat; rw [Int.toNat_natCast, List.take_zero, List.nil_append] at ho; obtain ⟨b6, c6, rfl, _, _, _⟩ := Kd.R_form ho (by rw [List.length_replicate]; have := HKL4.out; omega); rw [List.length_replicate] at ho hat ⊢; rw [own_len Ak 0 ck nk ck] at hg hat; have HBSC := Aside0.mk (show BS w wC (Own3 g (.slice Ak nk ck) (.slice Ab nb cb) (.slice Ap np cp)) g base q4 (ks, kn, kd) A7 n7 c7 kl #[.int .i64 r, .int .i64 0, .int .i64 n, .string k0s, .int .u64 k0n, .int .i64 k0d, (.slice Ak nk ck), (.slice AA nA cA), (.slice (some ⟨b2, 0, none⟩) np1 c2)] (.slice (some ⟨b6, 0, none⟩) n7 c6) (.slice AA nA cA) (.slice (some ⟨b2, 0, none⟩) np1 c2) (List.replicate n7 0) ((putJ bytes 0 (n7 : Int) (v.size : Int) 3) ++ kl.drop 0 ++ bytesOf v) (places ++ [(nb : Int)]) from HBS.out.grownK hg ho hat); have t6 : wC.cell? ⟨g, 6, none⟩ = some (.slice Ak nk ck) := (blk_cell HBSC.out.cell 6).trans rfl; have f6 := blk_frozen HBSC.out.cell 6; have HBSD := Aside0.mk (show BS w (wC.setCell ⟨g, 6, none⟩ (.slice (some ⟨b6, 0, none⟩) n7 c6)) (Own3 g (.slice Ak nk ck) (.slice Ab nb cb) (.slice Ap np cp)) g base q4 (ks, kn, kd) A7 n7 c7 kl #[.int .i64 r, .int .i64 0, .int .i64 n, .string k0s, .int .u64 k0n, .int .i64 k0d, (.slice (some ⟨b6, 0, none⟩) n7 c6), (.slice AA nA cA), (.slice (some ⟨b2, 0, none⟩) np1 c2)] (.slice (some ⟨b6, 0, none⟩) n7 c6) (.slice AA nA cA) (.slice (some ⟨b2, 0, none⟩) np1 c2) (List.replicate n7 0) ((putJ bytes 0 (n7 : Int) (v.size : Int) 3) ++ kl.drop 0 ++ bytesOf v) (places ++ [(nb : Int)]) from HBSC.out.put 6 _); have u6 := (blk_cell HBSD.out.cell 6).trans (show _ = some (.slice (some ⟨b6, 0, none⟩) n7 c6) from rfl); clear ho hb hg hat HK0 p6 hcut0) | ((with_reducible refine gate_builtin (b := .copy) (xs := #[.tmp 128, .tmp 129]) rfl ?_); refine Kd.R_copy (enc := Value.int .u8) (h1 := fun _ => rfl) (0 : Int) (w0 := w) base rfl (.tmp 128) (.tmp 129) 23 23 5 rfl Try.underlying23 (by kernel_rfl) (.slice (some ⟨b6, 0, none⟩) n7 c6) (List.replicate n7 0) kl A7 n7 c7 (fun _ => True) rfl rfl HBSD.out.key (HC7x.out _ HBSD.out.row7) HBSD.out.below (by have h1 := HBSD.out.bw; have h2 := HBSD.out.kept.1; exact Nat.le_trans h1 h2) ?_; intro wE ho hb hg; rw [List.length_replicate, Nat.min_self, List.take_of_length_le (Nat.le_of_eq HN7.out), List.drop_of_length_le (by rw [List.length_replicate]; exact Nat.le_refl _), List.append_nil] at ho; have HBSE := Aside0.mk (show BS w wE (Own3 g (.slice Ak nk ck) (.slice Ab nb cb) (.slice Ap np cp)) g base q4 (ks, kn, kd) A7 n7 c7 kl #[.int .i64 r, .int .i64 0, .int .i64 n, .string k0s, .int .u64 k0n, .int .i64 k0d, (.slice (some ⟨b6, 0, none⟩) n7 c6), (.slice AA nA cA), (.slice (some ⟨b2, 0, none⟩) np1 c2)] (.slice (some ⟨b6, 0, none⟩) n7 c6) (.slice AA nA cA) (.slice (some ⟨b2, 0, none⟩) np1 c2) kl ((putJ bytes 0 (n7 : Int) (v.size : Int) 3) ++ kl.drop 0 ++ bytesOf v) (places ++ [(nb : Int)]) from HBSD.out.grownK hg ho (.inl rfl)); clear ho hb hg u6 t6 f6 HBSC HBSD; have q40 := (blk_cell HBSE.out.box4 0).trans (show _ = some (.string ks) from rfl); have q41 := (blk_cell HBSE.out.box4 1).trans (show _ = some (.int .u64 kn) from rfl); have q42 := (blk_cell HBSE.out.box4 2).trans (show _ = some (.int .i64 kd) from rfl); have t3 := (blk_cell HBSE.out.cell 3).trans (show _ = some (.string k0s) from rfl); have t4 := (blk_cell HBSE.out.cell 4).trans (show _ = some (.int .u64 k0n) from rfl); have t5 := (blk_cell HBSE.out.cell 5).trans (show _ = some (.int .i64 k0d) from rfl); have f3 := blk_frozen HBSE.out.cell 3; have f4 := blk_frozen HBSE.out.cell 4; have f5 := blk_frozen HBSE.out.cell 5; have HBSF := Aside0.mk (show BS w (((wE.setCell ⟨g, 3, none⟩ (.string ks)).setCell ⟨g, 4, none⟩ (.int .u64 kn)).setCell ⟨g, 5, none⟩ (.int .i64 kd)) (Own3 g (.slice Ak nk ck) (.slice Ab nb cb) (.slice Ap np cp)) g base q4 (ks, kn, kd) A7 n7 c7 kl #[.int .i64 r, .int .i64 0, .int .i64 n, .string ks, .int .u64 kn, .int .i64 kd, (.slice (some ⟨b6, 0, none⟩) n7 c6), (.slice AA nA cA), (.slice (some ⟨b2, 0, none⟩) np1 c2)] (.slice (some ⟨b6, 0, none⟩) n7 c6) (.slice AA nA cA) (.slice (some ⟨b2, 0, none⟩) np1 c2) kl ((putJ bytes 0 (n7 : Int) (v.size : Int) 3) ++ kl.drop 0 ++ bytesOf v) (places ++ [(nb : Int)]) from ((HBSE.out.put 3 _).put 4 _).put 5 _); have u1 := (blk_cell HBSF.out.cell 1).trans (show _ = some (.int .i64 0) from rfl); have fr1 := blk_frozen HBSF.out.cell 1; have HBSG := Aside0.mk (show BS w ((((wE.setCell ⟨g, 3, none⟩ (.string ks)).setCell ⟨g, 4, none⟩ (.int .u64 kn)).setCell ⟨g, 5, none⟩ (.int .i64 kd)).setCell ⟨g, 1, none⟩ (.int .i64 1)) (Own3 g (.slice Ak nk ck) (.slice Ab nb cb) (.slice Ap np cp)) g base q4 (ks, kn, kd) A7 n7 c7 kl #[.int .i64 r, .int .i64 1, .int .i64 n, .string ks, .int .u64 kn, .int .i64 kd, (.slice (some ⟨b6, 0, none⟩) n7 c6), (.slice AA nA cA), (.slice (some ⟨b2, 0, none⟩) np1 c2)] (.slice (some ⟨b6, 0, none⟩) n7 c6) (.slice AA nA cA) (.slice (some ⟨b2, 0, none⟩) np1 c2) kl ((putJ bytes 0 (n7 : Int) (v.size : Int) 3) ++ kl.drop 0 ++ bytesOf v) (places ++ [(nb : Int)]) from HBSF.out.put 1 _); have u2 := (blk_cell HBSG.out.cell 2).trans (show _ = some (.int .i64 n) from rfl); have fr2 := blk_frozen HBSG.out.cell 2; have HBSH := Aside0.mk (show BS w (((((wE.setCell ⟨g, 3, none⟩ (.string ks)).setCell ⟨g, 4, none⟩ (.int .u64 kn)).setCell ⟨g, 5, none⟩ (.int .i64 kd)).setCell ⟨g, 1, none⟩ (.int .i64 1)).setCell ⟨g, 2, none⟩ (.int .i64 (n + 1))) (Own3 g (.slice Ak nk ck) (.slice Ab nb cb) (.slice Ap np cp)) g base q4 (ks, kn, kd) A7 n7 c7 kl #[.int .i64 r, .int .i64 1, .int .i64 (n + 1), .string ks, .int .u64 kn, .int .i64 kd, (.slice (some ⟨b6, 0, none⟩) n7 c6), (.slice AA nA cA), (.slice (some ⟨b2, 0, none⟩) np1 c2)] (.slice (some ⟨b6, 0, none⟩) n7 c6) (.slice AA nA cA) (.slice (some ⟨b2, 0, none⟩) np1 c2) kl ((putJ bytes 0 (n7 : Int) (v.size : Int) 3) ++ kl.drop 0 ++ bytesOf v) (places ++ [(nb : Int)]) from HBSG.out.put 2 _)))
    go_ret
    have hK : kl = keyB (ks, kn, kd) := HKL.out.symm
    have hB : ((putJ bytes 0 (n7 : Int) (v.size : Int) 3) ++ kl.drop 0 ++ bytesOf v) = bytes ++ entB 0 (keyB (ks, kn, kd)) v := by
      rw [← hK]
      unfold entB putJ
      rw [HN7.out, show ((0 : Nat) : Int) = 0 from rfl, Int.sub_zero]
      simp only [List.append_assoc]
    have h1 := HBSH.out.key
    have h2 := HBSH.out.bytes
    have h3 := HBSH.out.places
    rw [hK] at h1
    rw [hB] at h2
    rw [HNB.out] at h3
    exact ⟨_, _, _, rfl, ⟨HBSH.out.cell, h1, h2, h3, HBSH.out.sep, HBSH.out.gb, Nat.le_trans HBSH.out.bw HBSH.out.kept.1⟩, HBSH.out.below, HBSH.out.kept⟩
set_option maxHeartbeats 16000000 in
set_option maxRecDepth 100000 in
theorem bu_add_c (w : World) (g base : Nat) (r s n : Int) (k0s : ByteArray) (k0n k0d : Int) (Ak : Option Addr) (nk ck : Nat) (Ab : Option Addr) (nb cb : Nat) (Ap : Option Addr) (np cp : Nat) (key bytes places : List Int) (ks : ByteArray) (kn kd : Int) (v : ByteArray)
    (h : BuAt w g base r s n (k0s, k0n, k0d) (.slice Ak nk ck) (.slice Ab nb cb) (.slice Ap np cp) key bytes places) (hr : 1 ≤ r) (hkn : 0 ≤ kn) (hv : validOf ks kn kd = true) (hsz : v.size ≤ 65536) (hn0 : 0 ≤ n) (hn1 : n ≤ 1099511627776) (hs0 : 0 ≤ s) (hs1 : s ≤ 1099511627776) (hbl : bytes.length ≤ 1099511627776) (hpl : places.length ≤ 1099511627776) (hkl : key.length ≤ 1099511627776) (hn : 0 < n) (hc : kc k0s.toList k0n k0d ks.toList kn kd < 0) (hs : s ≠ r) :
    Calls Try.prog 18 #[.pointer (some ⟨g, 0, none⟩), .agg #[.string ks, .int .u64 kn, .int .i64 kd], .string v] w fun e w' => ∃ vk' vb' vp', e = .returned (.int .i64 0) ∧ BuAt w' g base r (s + 1) (n + 1) (ks, kn, kd) vk' vb' vp' (keyB (ks, kn, kd)) (bytes ++ entB (sharedN key (keyB (ks, kn, kd))) (keyB (ks, kn, kd)) v) places ∧ Below base w w' ∧ Kept w w' (Own3 g (.slice Ak nk ck) (.slice Ab nb cb) (.slice Ap np cp)) := by
  have hvp := validOf_parts hv
  have hkl2 : (bytesOf ks ++ fixF 8 (kn * 256 + kd)).length = ks.size + 8 := by rw [List.length_append, bytesOf_length, fixF_len]
  have HEN := Aside0.mk (show ikey_Encode.f 16 ks kn kd = some (bytesOf ks ++ fixF 8 (kn * 256 + kd), 0) by rw [encode_eq 16 ks kn kd hkn (by omega)]; unfold encK; rw [if_pos hv])
  obtain ⟨kl, hkl3⟩ : ∃ l, bytesOf ks ++ fixF 8 (kn * 256 + kd) = l := ⟨_, rfl⟩
  rw [hkl3] at HEN hkl2
  have HKL := Aside0.mk hkl3
  obtain ⟨W0, hW0⟩ : ∃ W0, w.alloc (.cells #[.string ks, .int .u64 kn, .int .i64 kd] 28) = W0 := ⟨_, rfl⟩
  have hb0 : Below w.heap.size w W0 := by rw [← hW0]; exact below_alloc (Below.refl _ _) _
  have hx0 : W0.heap[w.heap.size]? = some (.cells #[.string ks, .int .u64 kn, .int .i64 kd] 28 (0, 0)) := by rw [← hW0]; exact blk_new w _
  have HX0 := Aside0.mk hx0
  have HB0 := Aside0.mk hb0
  have HBU := Aside0.mk (h.below hb0)
  have HW := Aside0.mk hW0
  have HGB := Aside0.mk h.gb
  have HBW := Aside0.mk h.bw
  have HNN := Aside0.mk (bu_none g r (by omega) W0 (by rw [← hW0]; exact (pw_cell_below hb0 ((blk_cell h.cell 0).trans rfl)) |> fun q => by rw [hW0]; exact q))
  have ck0 := (blk_cell hx0 0).trans (show _ = some (.string ks) from rfl)
  have ck1 := (blk_cell hx0 1).trans (show _ = some (.int .u64 kn) from rfl)
  have ck2 := (blk_cell hx0 2).trans (show _ = some (.int .i64 kd) from rfl)
  have d1 : decide ((v.size : Int) > 65536) = false := decide_eq_false (by omega)
  have d1' : decide (65536 < v.size) = false := decide_eq_false (by omega)
  have HSZ := Aside0.mk hsz
  have hks : ks.size ≤ 1024 := hvp.2.1
  obtain ⟨q4, hq4⟩ : ∃ q, w.heap.size = q := ⟨_, rfl⟩
  have HQ4 := Aside0.mk hq4
  clear h hW0 hb0 hx0 hv hvp hsz hkl3 hq4
  go_enter Try.func18, Try.ntmps18
  go_wp2_with fail
  rw [HW.out]
  (with_reducible refine HNN.out.mono ?_)
  rintro e w1 ⟨rfl, rfl⟩
  go_wp2_with fail
  (with_reducible refine (ikey_Encode.calls 16 ks kn kd kl 0 _ HEN.out).mono ?_)
  rintro e w2 ⟨v7, rfl, hr7, hb⟩
  obtain ⟨A7, c7, rfl, hc7, _⟩ := Kd.R_reads hr7
  obtain ⟨n7, hn7⟩ : ∃ n, kl.length = n := ⟨_, rfl⟩
  rw [hn7] at hr7 hc7 hkl2 ⊢
  have HN7 := Aside0.mk hn7
  have HC7 := Aside0.mk hc7
  have HKL2 := Aside0.mk (show n7 ≤ 1032 by omega)
  have HKL4 := Aside0.mk (show 8 ≤ n7 by omega)
  have hbu := HBU.out.below hb
  have h0s := HB0.out.size
  have HBS := Aside0.mk (show BS w w2 (Own3 g (.slice Ak nk ck) (.slice Ab nb cb) (.slice Ap np cp)) g base w.heap.size (ks, kn, kd) A7 n7 c7 kl #[.int .i64 r, .int .i64 s, .int .i64 n, .string k0s, .int .u64 k0n, .int .i64 k0d, (.slice Ak nk ck), (.slice Ab nb cb), (.slice Ap np cp)] (.slice Ak nk ck) (.slice Ab nb cb) (.slice Ap np cp) key bytes places from
    ⟨hbu.cell, hbu.key, hbu.bytes, hbu.places, hbu.sep, hbu.gb, HBW.out, (below_step HB0.out hb).mono HBW.out, Kept.of_below (below_step HB0.out hb) _, .inl (.inl rfl), fun q hq => .inl (.inr (.inl hq)), fun q hq => .inl (.inr (.inr (.inl hq))), fun q hq => .inl (.inr (.inr (.inr hq))), Kd.R_lower hr7 (Nat.le_trans HBW.out h0s),
      fun q hq => ⟨fun e => by have h1 := Kd.R_base hr7 q hq; have h2 := Kd.R_lt HBU.out.key q e; omega, fun e => by have h1 := Kd.R_base hr7 q hq; have h2 := Kd.R_lt HBU.out.bytes q e; omega⟩, blk_below HX0.out hb⟩)
  rw [HQ4.out] at HBS ⊢
  have hNb : nb = bytes.length := (Kd.R_reads' HBS.out.bytes).1
  have hNp : np = places.length := (Kd.R_reads' HBS.out.places).1
  have hNk : nk = key.length := (Kd.R_reads' HBS.out.key).1
  have HNB := Aside0.mk hNb
  have HNP := Aside0.mk hNp
  have HNK := Aside0.mk hNk
  rw [← hNb] at hbl
  rw [← hNp] at hpl
  rw [← hNk] at hkl
  clear ck0 ck1 ck2 hr7 hc7 hn7 hkl2 hks hb hbu h0s HX0 HBU HW HNN HEN hNb hNp hNk
  have e0 : decide (n > 0) = true := decide_eq_true (by omega)
  have e0' : decide (0 < n) = true := decide_eq_true (by omega)
  have e2 : (n == 0) = false := by simp; omega
  have e3 : (s == r) = false := by simpa using hs
  clear hs
  have p2 : w2.cell? ⟨g, 2, none⟩ = some (.int .i64 n) := (blk_cell HBS.out.cell 2).trans rfl
  have p3 : w2.cell? ⟨g, 3, none⟩ = some (.string k0s) := (blk_cell HBS.out.cell 3).trans rfl
  have p4 : w2.cell? ⟨g, 4, none⟩ = some (.int .u64 k0n) := (blk_cell HBS.out.cell 4).trans rfl
  have p5 : w2.cell? ⟨g, 5, none⟩ = some (.int .i64 k0d) := (blk_cell HBS.out.cell 5).trans rfl
  have p40 : w2.cell? ⟨q4, 0, none⟩ = some (.string ks) := (blk_cell HBS.out.box4 0).trans rfl
  have p41 : w2.cell? ⟨q4, 1, none⟩ = some (.int .u64 kn) := (blk_cell HBS.out.box4 1).trans rfl
  have p42 : w2.cell? ⟨q4, 2, none⟩ = some (.int .i64 kd) := (blk_cell HBS.out.box4 2).trans rfl
  obtain ⟨cv, hcv⟩ : ∃ x, kc k0s.toList k0n k0d ks.toList kn kd = x := ⟨_, rfl⟩
  rw [hcv] at hc
  have HCMP := Aside0.mk (show ikey_Compare.f 8 k0s k0n k0d ks kn kd = some cv by rw [← hcv]; exact compare_eq 4 _ _ _ _ _ _)
  have e1 : decide (cv ≥ 0) = false := decide_eq_false (by omega)
  have e1' : decide (0 ≤ cv) = false := decide_eq_false (by omega)
  clear hcv hc
  go_wp2_with fail
  refine start_ (n := 14) (S := fun w' => w'.cell? ⟨g, 2, none⟩ = some (.int .i64 n) ∧ w'.cell? ⟨g, 3, none⟩ = some (.string k0s) ∧ w'.cell? ⟨g, 4, none⟩ = some (.int .u64 k0n) ∧ w'.cell? ⟨g, 5, none⟩ = some (.int .i64 k0d) ∧ w'.cell? ⟨q4, 0, none⟩ = some (.string ks) ∧ w'.cell? ⟨q4, 1, none⟩ = some (.int .u64 kn) ∧ w'.cell? ⟨q4, 2, none⟩ = some (.int .i64 kd)) (ds := []) #[false, false, false, false, false, false, false, false, false, false, false, false, false, false] (by kernel_rfl) rfl rfl ⟨p2, p3, p4, p5, p40, p41, p42⟩ (fun hHeld => ?_)
  refine pure_ (i := 0) (N := some 26) (v := ?_) (a' := ?_) #[true, false, false, false, false, false, false, false, false, false, false, false, false, false] rfl rfl (by kernel_rfl) (fun _ _ _ h => h) (Or.inl ⟨by rfl, ?_⟩) ?_ ?_
  rotate_left
  · intro w'
    go_simp
    with_reducible rfl
  rotate_left
  · simp only [Act.put, List.setIfInBounds_toArray, List.set_cons_zero, List.set_cons_succ, i64_w, i32_w]
    rfl
  refine pure_ (i := 1) (N := some 27) (v := ?_) (a' := ?_) #[true, true, false, false, false, false, false, false, false, false, false, false, false, false] rfl rfl (by kernel_rfl) (fun _ _ _ h => h) (Or.inl ⟨by rfl, ?_⟩) ?_ ?_
  rotate_left
  · intro w'
    go_simp
    with_reducible rfl
  rotate_left
  · simp only [Act.put, List.setIfInBounds_toArray, List.set_cons_zero, List.set_cons_succ, i64_w, i32_w]
    rfl
  refine pure_ (i := 2) (N := some 28) (v := ?_) (a' := ?_) #[true, true, true, false, false, false, false, false, false, false, false, false, false, false] rfl rfl (by kernel_rfl) (fun _ _ _ h => h) (Or.inl ⟨by rfl, ?_⟩) ?_ ?_
  rotate_left
  · intro w'
    go_simp
    with_reducible rfl
  rotate_left
  · simp only [Act.put, List.setIfInBounds_toArray, List.set_cons_zero, List.set_cons_succ, i64_w, i32_w]
    rfl
  refine take_ (i := 3) (N := some 29) (v := ?_) (a' := ?_) #[true, true, true, true, false, false, false, false, false, false, false, false, false, false] rfl rfl (by kernel_rfl) (fun _ _ _ h => h) (Or.inl ⟨by rfl, ?_⟩) hHeld ?_ ?_
  rotate_left
  · rintro w' ⟨s0, s1, s2, s3, s4, s5, s6⟩
    go_simp
    with_reducible rfl
  rotate_left
  · simp only [Act.put, List.setIfInBounds_toArray, List.set_cons_zero, List.set_cons_succ, i64_w, i32_w]
    rfl
  refine pure_ (i := 4) (N := some 30) (v := ?_) (a' := ?_) #[true, true, true, true, true, false, false, false, false, false, false, false, false, false] rfl rfl (by kernel_rfl) (fun _ _ _ h => h) (Or.inl ⟨by rfl, ?_⟩) ?_ ?_
  rotate_left
  · intro w'
    go_simp
    with_reducible rfl
  rotate_left
  · simp only [Act.put, List.setIfInBounds_toArray, List.set_cons_zero, List.set_cons_succ, i64_w, i32_w]
    rfl
  refine pure_ (i := 5) (N := some 31) (v := ?_) (a' := ?_) #[true, true, true, true, true, true, false, false, false, false, false, false, false, false] rfl rfl (by kernel_rfl) (fun _ _ _ h => h) (Or.inl ⟨by rfl, ?_⟩) ?_ ?_
  rotate_left
  · intro w'
    go_simp
    with_reducible rfl
  rotate_left
  · simp only [Act.put, List.setIfInBounds_toArray, List.set_cons_zero, List.set_cons_succ, i64_w, i32_w]
    rfl
  refine pure_ (i := 6) (N := some 32) (v := ?_) (a' := ?_) #[true, true, true, true, true, true, true, false, false, false, false, false, false, false] rfl rfl (by kernel_rfl) (fun _ _ _ h => h) (Or.inl ⟨by rfl, ?_⟩) ?_ ?_
  rotate_left
  · intro w'
    go_simp
    with_reducible rfl
  rotate_left
  · simp only [Act.put, List.setIfInBounds_toArray, List.set_cons_zero, List.set_cons_succ, i64_w, i32_w]
    rfl
  refine pure_ (i := 7) (N := some 33) (v := ?_) (a' := ?_) #[true, true, true, true, true, true, true, true, false, false, false, false, false, false] rfl rfl (by kernel_rfl) (fun _ _ _ h => h) (Or.inl ⟨by rfl, ?_⟩) ?_ ?_
  rotate_left
  · intro w'
    go_simp
    with_reducible rfl
  rotate_left
  · simp only [Act.put, List.setIfInBounds_toArray, List.set_cons_zero, List.set_cons_succ, i64_w, i32_w]
    rfl
  refine pure_ (i := 8) (N := some 34) (v := ?_) (a' := ?_) #[true, true, true, true, true, true, true, true, true, false, false, false, false, false] rfl rfl (by kernel_rfl) (fun _ _ _ h => h) (Or.inl ⟨by rfl, ?_⟩) ?_ ?_
  rotate_left
  · intro w'
    go_simp
    with_reducible rfl
  rotate_left
  · simp only [Act.put, List.setIfInBounds_toArray, List.set_cons_zero, List.set_cons_succ, i64_w, i32_w]
    rfl
  refine take_ (i := 9) (N := some 35) (v := ?_) (a' := ?_) #[true, true, true, true, true, true, true, true, true, true, false, false, false, false] rfl rfl (by kernel_rfl) (fun _ _ _ h => h) (Or.inl ⟨by rfl, ?_⟩) hHeld ?_ ?_
  rotate_left
  · rintro w' ⟨s0, s1, s2, s3, s4, s5, s6⟩
    go_simp
    with_reducible rfl
  rotate_left
  · simp only [Act.put, List.setIfInBounds_toArray, List.set_cons_zero, List.set_cons_succ, i64_w, i32_w]
    rfl
  refine take_ (i := 10) (N := some 36) (v := ?_) (a' := ?_) #[true, true, true, true, true, true, true, true, true, true, true, false, false, false] rfl rfl (by kernel_rfl) (fun _ _ _ h => h) (Or.inl ⟨by rfl, ?_⟩) hHeld ?_ ?_
  rotate_left
  · rintro w' ⟨s0, s1, s2, s3, s4, s5, s6⟩
    go_simp
    with_reducible rfl
  rotate_left
  · simp only [Act.put, List.setIfInBounds_toArray, List.set_cons_zero, List.set_cons_succ, i64_w, i32_w]
    rfl
  refine one_ (i := 11) (N := some 37) #[true, true, true, true, true, true, true, true, true, true, true, true, false, false] rfl rfl (by kernel_rfl) (by decide) (fun K hK => ?_)
  refine goes_ Try.func29 (by kernel_rfl) rfl #[.agg #[.string k0s, .int .u64 k0n, .int .i64 k0d], .agg #[.string ks, .int .u64 kn, .int .i64 kd]] (by rfl) rfl rfl (by simp only [List.map_toArray, List.map_cons, List.map_nil]; rfl) ?_
  with_reducible refine (ikey_Compare.calls 8 k0s k0n k0d ks kn kd cv _ HCMP.out).mono ?_
  rintro e w3 ⟨rfl, hb⟩
  refine ⟨_, rfl, ?_⟩
  have HBS3 := Aside0.mk (show BS w w3 (Own3 g (.slice Ak nk ck) (.slice Ab nb cb) (.slice Ap np cp)) g base q4 (ks, kn, kd) A7 n7 c7 kl #[.int .i64 r, .int .i64 s, .int .i64 n, .string k0s, .int .u64 k0n, .int .i64 k0d, (.slice Ak nk ck), (.slice Ab nb cb), (.slice Ap np cp)] (.slice Ak nk ck) (.slice Ab nb cb) (.slice Ap np cp) key bytes places from HBS.out.later (below_step (below_drew1 (Below.refl _ _)) hb))
  have HD3 := Aside0.mk (show Below w2.heap.size w2 w3 from below_step (below_drew1 (Below.refl _ _)) hb)
  clear hb
  refine hK.out _ _ ⟨pw_cell_below HD3.out p2, pw_cell_below HD3.out p3, pw_cell_below HD3.out p4, pw_cell_below HD3.out p5, pw_cell_below HD3.out p40, pw_cell_below HD3.out p41, pw_cell_below HD3.out p42⟩ (fun hHeld => ?_)
  clear hK K
  refine norm_ (a' := ?_) ?_ ?_
  rotate_left
  · show Act.put _ (some 37) _ = _
    simp only [Act.put, List.setIfInBounds_toArray, List.set_cons_zero, List.set_cons_succ, i64_w, i32_w]
    rfl
  refine pure_ (i := 12) (N := some 38) (v := ?_) (a' := ?_) #[true, true, true, true, true, true, true, true, true, true, true, true, true, false] rfl rfl (by kernel_rfl) (fun _ _ _ h => h) (Or.inl ⟨by rfl, ?_⟩) ?_ ?_
  rotate_left
  · intro w'
    go_simp
    with_reducible rfl
  rotate_left
  · simp only [Act.put, List.setIfInBounds_toArray, List.set_cons_zero, List.set_cons_succ, i64_w, i32_w]
    rfl
  refine pure_ (i := 13) (N := some 39) (v := ?_) (a' := ?_) #[true, true, true, true, true, true, true, true, true, true, true, true, true, true] rfl rfl (by kernel_rfl) (fun _ _ _ h => h) (Or.inl ⟨by rfl, ?_⟩) ?_ ?_
  rotate_left
  · intro w'
    go_simp
    with_reducible rfl
  rotate_left
  · simp only [Act.put, List.setIfInBounds_toArray, List.set_cons_zero, List.set_cons_succ, i64_w, i32_w]
    rfl
  refine done_ (by kernel_rfl) ?_
  have HBS := HBS3
  clear p2 p3 p4 p5 p40 p41 p42 hHeld HBS3 HD3 HCMP e0 e0' e1 e1'
  have p2 : w3.cell? ⟨g, 2, none⟩ = some (.int .i64 n) := (blk_cell HBS.out.cell 2).trans rfl
  have p1 : w3.cell? ⟨g, 1, none⟩ = some (.int .i64 s) := (blk_cell HBS.out.cell 1).trans rfl
  have p0 : w3.cell? ⟨g, 0, none⟩ = some (.int .i64 r) := (blk_cell HBS.out.cell 0).trans rfl
  go_wp2_with fail
  refine start_ (n := 16) (S := fun w' => w'.cell? ⟨g, 2, none⟩ = some (.int .i64 n) ∧ w'.cell? ⟨g, 1, none⟩ = some (.int .i64 s) ∧ w'.cell? ⟨g, 0, none⟩ = some (.int .i64 r)) (ds := []) #[false, false, false, false, false, false, false, false, false, false, false, false, false, false, false, false] (by kernel_rfl) rfl rfl ⟨p2, p1, p0⟩ (fun hHeld => ?_)
  refine pure_ (i := 0) (N := some 40) (v := ?_) (a' := ?_) #[true, false, false, false, false, false, false, false, false, false, false, false, false, false, false, false] rfl rfl (by kernel_rfl) (fun _ _ _ h => h) (Or.inl ⟨by rfl, ?_⟩) ?_ ?_
  rotate_left
  · intro w'
    go_simp
    with_reducible rfl
  rotate_left
  · simp only [Act.put, List.setIfInBounds_toArray, List.set_cons_zero, List.set_cons_succ, i64_w, i32_w]
    rfl
  refine pure_ (i := 1) (N := some 41) (v := ?_) (a' := ?_) #[true, true, false, false, false, false, false, false, false, false, false, false, false, false, false, false] rfl rfl (by kernel_rfl) (fun _ _ _ h => h) (Or.inl ⟨by rfl, ?_⟩) ?_ ?_
  rotate_left
  · intro w'
    go_simp
    with_reducible rfl
  rotate_left
  · simp only [Act.put, List.setIfInBounds_toArray, List.set_cons_zero, List.set_cons_succ, i64_w, i32_w]
    rfl
  refine pure_ (i := 2) (N := some 42) (v := ?_) (a' := ?_) #[true, true, true, false, false, false, false, false, false, false, false, false, false, false, false, false] rfl rfl (by kernel_rfl) (fun _ _ _ h => h) (Or.inl ⟨by rfl, ?_⟩) ?_ ?_
  rotate_left
  · intro w'
    go_simp
    with_reducible rfl
  rotate_left
  · simp only [Act.put, List.setIfInBounds_toArray, List.set_cons_zero, List.set_cons_succ, i64_w, i32_w]
    rfl
  refine take_ (i := 3) (N := some 43) (v := ?_) (a' := ?_) #[true, true, true, true, false, false, false, false, false, false, false, false, false, false, false, false] rfl rfl (by kernel_rfl) (fun _ _ _ h => h) (Or.inl ⟨by rfl, ?_⟩) hHeld ?_ ?_
  rotate_left
  · rintro w' ⟨s0, s1, s2⟩
    go_simp
    with_reducible rfl
  rotate_left
  · simp only [Act.put, List.setIfInBounds_toArray, List.set_cons_zero, List.set_cons_succ, i64_w, i32_w]
    rfl
  refine pure_ (i := 4) (N := some 44) (v := ?_) (a' := ?_) #[true, true, true, true, true, false, false, false, false, false, false, false, false, false, false, false] rfl rfl (by kernel_rfl) (fun _ _ _ h => h) (Or.inl ⟨by rfl, ?_⟩) ?_ ?_
  rotate_left
  · intro w'
    go_simp
    with_reducible rfl
  rotate_left
  · simp only [Act.put, List.setIfInBounds_toArray, List.set_cons_zero, List.set_cons_succ, i64_w, i32_w]
    rfl
  refine pure_ (i := 5) (N := some 45) (v := ?_) (a' := ?_) #[true, true, true, true, true, true, false, false, false, false, false, false, false, false, false, false] rfl rfl (by kernel_rfl) (fun _ _ _ h => h) (Or.inl ⟨by rfl, ?_⟩) ?_ ?_
  rotate_left
  · intro w'
    go_simp
    with_reducible rfl
  rotate_left
  · simp only [Act.put, List.setIfInBounds_toArray, List.set_cons_zero, List.set_cons_succ, i64_w, i32_w]
    rfl
  refine pure_ (i := 6) (N := some 46) (v := ?_) (a' := ?_) #[true, true, true, true, true, true, true, false, false, false, false, false, false, false, false, false] rfl rfl (by kernel_rfl) (fun _ _ _ h => h) (Or.inl ⟨by rfl, ?_⟩) ?_ ?_
  rotate_left
  · intro w'
    go_simp
    with_reducible rfl
  rotate_left
  · simp only [Act.put, List.setIfInBounds_toArray, List.set_cons_zero, List.set_cons_succ, i64_w, i32_w]
    rfl
  refine pure_ (i := 7) (N := some 47) (v := ?_) (a' := ?_) #[true, true, true, true, true, true, true, true, false, false, false, false, false, false, false, false] rfl rfl (by kernel_rfl) (fun _ _ _ h => h) (Or.inl ⟨by rfl, ?_⟩) ?_ ?_
  rotate_left
  · intro w'
    go_simp
    with_reducible rfl
  rotate_left
  · simp only [Act.put, List.setIfInBounds_toArray, List.set_cons_zero, List.set_cons_succ, i64_w, i32_w]
    rfl
  refine pure_ (i := 8) (N := some 48) (v := ?_) (a' := ?_) #[true, true, true, true, true, true, true, true, true, false, false, false, false, false, false, false] rfl rfl (by kernel_rfl) (fun _ _ _ h => h) (Or.inl ⟨by rfl, ?_⟩) ?_ ?_
  rotate_left
  · intro w'
    go_simp
    with_reducible rfl
  rotate_left
  · simp only [Act.put, List.setIfInBounds_toArray, List.set_cons_zero, List.set_cons_succ, i64_w, i32_w]
    rfl
  refine pure_ (i := 10) (N := some 50) (v := ?_) (a' := ?_) #[true, true, true, true, true, true, true, true, true, false, true, false, false, false, false, false] rfl rfl (by kernel_rfl) (fun _ _ _ h => h) (Or.inl ⟨by rfl, ?_⟩) ?_ ?_
  rotate_left
  · intro w'
    go_simp
    with_reducible rfl
  rotate_left
  · simp only [Act.put, List.setIfInBounds_toArray, List.set_cons_zero, List.set_cons_succ, i64_w, i32_w]
    rfl
  refine pure_ (i := 11) (N := some 51) (v := ?_) (a' := ?_) #[true, true, true, true, true, true, true, true, true, false, true, true, false, false, false, false] rfl rfl (by kernel_rfl) (fun _ _ _ h => h) (Or.inl ⟨by rfl, ?_⟩) ?_ ?_
  rotate_left
  · intro w'
    go_simp
    with_reducible rfl
  rotate_left
  · simp only [Act.put, List.setIfInBounds_toArray, List.set_cons_zero, List.set_cons_succ, i64_w, i32_w]
    rfl
  refine pure_ (i := 12) (N := some 52) (v := ?_) (a' := ?_) #[true, true, true, true, true, true, true, true, true, false, true, true, true, false, false, false] rfl rfl (by kernel_rfl) (fun _ _ _ h => h) (Or.inl ⟨by rfl, ?_⟩) ?_ ?_
  rotate_left
  · intro w'
    go_simp
    with_reducible rfl
  rotate_left
  · simp only [Act.put, List.setIfInBounds_toArray, List.set_cons_zero, List.set_cons_succ, i64_w, i32_w]
    rfl
  refine take_ (i := 9) (N := some 49) (v := ?_) (a' := ?_) #[true, true, true, true, true, true, true, true, true, true, true, true, true, false, false, false] rfl rfl (by kernel_rfl) (fun _ _ _ h => h) (Or.inl ⟨by rfl, ?_⟩) hHeld ?_ ?_
  rotate_left
  · rintro w' ⟨s0, s1, s2⟩
    go_simp
    with_reducible rfl
  rotate_left
  · simp only [Act.put, List.setIfInBounds_toArray, List.set_cons_zero, List.set_cons_succ, i64_w, i32_w]
    rfl
  refine take_ (i := 13) (N := some 53) (v := ?_) (a' := ?_) #[true, true, true, true, true, true, true, true, true, true, true, true, true, true, false, false] rfl rfl (by kernel_rfl) (fun _ _ _ h => h) (Or.inl ⟨by rfl, ?_⟩) hHeld ?_ ?_
  rotate_left
  · rintro w' ⟨s0, s1, s2⟩
    go_simp
    with_reducible rfl
  rotate_left
  · simp only [Act.put, List.setIfInBounds_toArray, List.set_cons_zero, List.set_cons_succ, i64_w, i32_w]
    rfl
  refine pure_ (i := 14) (N := some 54) (v := ?_) (a' := ?_) #[true, true, true, true, true, true, true, true, true, true, true, true, true, true, true, false] rfl rfl (by kernel_rfl) (fun _ _ _ h => h) (Or.inl ⟨by rfl, ?_⟩) ?_ ?_
  rotate_left
  · intro w'
    go_simp
    with_reducible rfl
  rotate_left
  · simp only [Act.put, List.setIfInBounds_toArray, List.set_cons_zero, List.set_cons_succ, i64_w, i32_w]
    rfl
  refine pure_ (i := 15) (N := some 55) (v := ?_) (a' := ?_) #[true, true, true, true, true, true, true, true, true, true, true, true, true, true, true, true] rfl rfl (by kernel_rfl) (fun _ _ _ h => h) (Or.inl ⟨by rfl, ?_⟩) ?_ ?_
  rotate_left
  · intro w'
    go_simp
    with_reducible rfl
  rotate_left
  · simp only [Act.put, List.setIfInBounds_toArray, List.set_cons_zero, List.set_cons_succ, i64_w, i32_w]
    rfl
  refine done_ (by kernel_rfl) ?_
  clear p2 p1 p0 hHeld
  generalize hw4 : w3.drew = w4
  have HBS := Aside0.mk (show BS w w4 (Own3 g (.slice Ak nk ck) (.slice Ab nb cb) (.slice Ap np cp)) g base q4 (ks, kn, kd) A7 n7 c7 kl #[.int .i64 r, .int .i64 s, .int .i64 n, .string k0s, .int .u64 k0n, .int .i64 k0d, (.slice Ak nk ck), (.slice Ab nb cb), (.slice Ap np cp)] (.slice Ak nk ck) (.slice Ab nb cb) (.slice Ap np cp) key bytes places by rw [← hw4]; exact HBS.out.later (below_drew1 (Below.refl _ _)))
  clear hw4
  clear e2 e3
  obtain ⟨sh, hsh⟩ : ∃ x, sharedN key kl = x := ⟨_, rfl⟩
  have hsl := sharedN_le key kl
  rw [hsh, HN7.out, ← HNK.out] at hsl
  have HSHA := Aside0.mk (show block_shared.f (key.length + 1) key kl = some (sh : Int) by rw [← hsh]; exact shared_eq key kl (by rw [← HNK.out]; exact hkl) _ (Nat.le_refl _))
  have HSH := Aside0.mk hsh
  obtain ⟨hx1, hckk, hCk⟩ := Kd.R_reads' HBS.out.key
  clear hx1
  have HC7r := Aside0.mk (Kd.R_reads' HBS.out.row7).2.2
  have HCK := Aside0.mk hCk
  have HCKK := Aside0.mk hckk
  have p6 : w4.cell? ⟨g, 6, none⟩ = some (.slice Ak nk ck) := (blk_cell HBS.out.cell 6).trans rfl
  have HSHL := Aside0.mk hsl
  clear hckk hCk hsh hsl
  have HSC := Aside0.mk (block_shared.calls (key.length + 1) Ak ck key A7 c7 kl (sh : Int) w4 HCK.out (by rw [← HNK.out]; first | exact HCKK.out | (rw [HNK.out]; exact HCKK.out)) HC7r.out (by rw [HN7.out]; exact HC7.out) HSHA.out)
  rw [← HNK.out, HN7.out] at HSC
  clear HC7r HCK HCKK HSHA
  go_wp2_with fail
  (with_reducible refine HSC.out.mono ?_)
  rintro e w7 ⟨rfl, hd⟩
  have HBS := Aside0.mk (HBS.out.later hd.below)
  have hsh7 : (sh : Int) ≤ (n7 : Int) := by have := HSHL.out; omega
  have hsh8 : sh ≤ n7 := by have := HSHL.out; omega
  have hn71 : n7 ≤ 1032 := HKL2.out
  clear hd p6 HSC
  go_wp2_with fail
  have HI := Aside0.mk (show (Try.prog.info? 5).map (fun i => (i.zero, i.size, i.bytes)) = some (some (.int .u8 0), 1, 1) from by kernel_rfl)
  go_loopg [87] 4 (fun kq v87 wr => ∃ (j : Nat) (A1 : Option Addr) (n1 c1 : Nat), v87 = .int .i64 (j : Int) ∧ j ≤ 3 ∧ 3 - j < kq ∧ Aside0 (BS w wr (Own3 g (.slice Ak nk ck) (.slice Ab nb cb) (.slice Ap np cp)) g base q4 (ks, kn, kd) A7 n7 c7 kl #[.int .i64 r, .int .i64 s, .int .i64 n, .string k0s, .int .u64 k0n, .int .i64 k0d, (.slice Ak nk ck), (.slice A1 n1 c1), (.slice Ap np cp)] (.slice Ak nk ck) (.slice A1 n1 c1) (.slice Ap np cp) key (putJ bytes (sh : Int) ((n7 : Int) - (sh : Int)) (v.size : Int) j) places))
  case atStart => exact ⟨0, Ab, nb, cb, rfl, by omega, by omega, ⟨HBS.out⟩⟩
  case round =>
    clear HBS
    obtain ⟨j, A1, n1, c1, rfl, hj3, hkq, HBS⟩ := hrel
    cases gk with
    | zero => omega
    | succ gk1 =>
    have HN1 := Aside0.mk (Kd.R_reads' HBS.out.bytes).1
    have HC1 := Aside0.mk (Kd.R_reads' HBS.out.bytes).2
    have HL1 := Aside0.mk (show (putJ bytes (sh : Int) ((n7 : Int) - (sh : Int)) (v.size : Int) j).length ≤ nb + 30 by have h1 := putJ_len bytes (sh : Int) ((n7 : Int) - (sh : Int)) (v.size : Int) j; have h2 := HNB.out; omega)
    by_cases hj0 : j = 0
    · subst hj0
      rw [show ((0 : Nat) : Int) = 0 from rfl]
      have p7 : wr.cell? ⟨g, 7, none⟩ = some (.slice A1 n1 c1) := (blk_cell HBS.out.cell 7).trans rfl
      have hu : IntKind.u64.wrap (sh : Int) = (sh : Int) := by rw [Go.IntKind.wrap_u64]; omega
      have hix := idx0 (.int .i64 (sh : Int)) (.int .i64 ((n7 : Int) - (sh : Int))) (.int .i64 (v.size : Int))
      have HPV := Aside0.mk (codec_PutVarint.calls 16 A1 c1 (putJ bytes (sh : Int) ((n7 : Int) - (sh : Int)) (v.size : Int) 0) (sh : Int) (putJ bytes (sh : Int) ((n7 : Int) - (sh : Int)) (v.size : Int) 1) wr HC1.out.2 (by have h1 := HC1.out.1; have h2 := HN1.out; omega) (PutVarint_eq 16 _ (sh : Int) (by omega) (by have := HSZ.out; omega) (by have := HL1.out; omega) (by omega)))
      rw [← HN1.out] at HPV
      have HKQ := Aside0.mk hkq
      clear hkq hj3
      go_wp2_with fail
      (with_reducible refine HPV.out.mono ?_)
      rintro e wx ⟨v', rfl, hr', hb'⟩
      obtain ⟨A2, c2', rfl, _, _⟩ := Kd.R_reads hr'
      obtain ⟨n2, hn2⟩ : ∃ x, (putJ bytes (sh : Int) ((n7 : Int) - (sh : Int)) (v.size : Int) 1).length = x := ⟨_, rfl⟩
      rw [hn2] at hr' ⊢
      have p7x : wx.cell? ⟨g, 7, none⟩ = some (.slice A1 n1 c1) := (blk_cell (HBS.out.later hb').cell 7).trans rfl
      have f7x := blk_frozen (HBS.out.later hb').cell 7
      have HBX := Aside0.mk (HBS.out.newB hb' hr')
      clear hr' hb' hn2 p7 HPV hu hix
      go_wp2
      generalize hWY : wx.setCell _ _ = wy
      have HBY := Aside0.mk (show BS w wy (Own3 g (.slice Ak nk ck) (.slice Ab nb cb) (.slice Ap np cp)) g base q4 (ks, kn, kd) A7 n7 c7 kl #[.int .i64 r, .int .i64 s, .int .i64 n, .string k0s, .int .u64 k0n, .int .i64 k0d, (.slice Ak nk ck), (.slice A2 n2 c2'), (.slice Ap np cp)] (.slice Ak nk ck) (.slice A2 n2 c2') (.slice Ap np cp) key (putJ bytes (sh : Int) ((n7 : Int) - (sh : Int)) (v.size : Int) 1) places by rw [← hWY]; exact HBX.out.put 7 _)
      clear hWY
      go_roundg gk1
      case measure => have := HKQ.out; omega
      case rel => exact ⟨1, A2, n2, c2', rfl, by omega, by have := HKQ.out; omega, HBY⟩
    by_cases hj1 : j = 1
    · subst hj1
      rw [show ((1 : Nat) : Int) = 1 from rfl]
      have p7 : wr.cell? ⟨g, 7, none⟩ = some (.slice A1 n1 c1) := (blk_cell HBS.out.cell 7).trans rfl
      have hu : IntKind.u64.wrap ((n7 : Int) - (sh : Int)) = ((n7 : Int) - (sh : Int)) := by rw [Go.IntKind.wrap_u64]; omega
      have hix := idx1 (.int .i64 (sh : Int)) (.int .i64 ((n7 : Int) - (sh : Int))) (.int .i64 (v.size : Int))
      have HPV := Aside0.mk (codec_PutVarint.calls 16 A1 c1 (putJ bytes (sh : Int) ((n7 : Int) - (sh : Int)) (v.size : Int) 1) ((n7 : Int) - (sh : Int)) (putJ bytes (sh : Int) ((n7 : Int) - (sh : Int)) (v.size : Int) 2) wr HC1.out.2 (by have h1 := HC1.out.1; have h2 := HN1.out; omega) (PutVarint_eq 16 _ ((n7 : Int) - (sh : Int)) (by omega) (by have := HSZ.out; omega) (by have := HL1.out; omega) (by omega)))
      rw [← HN1.out] at HPV
      have HKQ := Aside0.mk hkq
      clear hkq hj3 hj0
      go_wp2_with fail
      (with_reducible refine HPV.out.mono ?_)
      rintro e wx ⟨v', rfl, hr', hb'⟩
      obtain ⟨A2, c2', rfl, _, _⟩ := Kd.R_reads hr'
      obtain ⟨n2, hn2⟩ : ∃ x, (putJ bytes (sh : Int) ((n7 : Int) - (sh : Int)) (v.size : Int) 2).length = x := ⟨_, rfl⟩
      rw [hn2] at hr' ⊢
      have p7x : wx.cell? ⟨g, 7, none⟩ = some (.slice A1 n1 c1) := (blk_cell (HBS.out.later hb').cell 7).trans rfl
      have f7x := blk_frozen (HBS.out.later hb').cell 7
      have HBX := Aside0.mk (HBS.out.newB hb' hr')
      clear hr' hb' hn2 p7 HPV hu hix
      go_wp2
      generalize hWY : wx.setCell _ _ = wy
      have HBY := Aside0.mk (show BS w wy (Own3 g (.slice Ak nk ck) (.slice Ab nb cb) (.slice Ap np cp)) g base q4 (ks, kn, kd) A7 n7 c7 kl #[.int .i64 r, .int .i64 s, .int .i64 n, .string k0s, .int .u64 k0n, .int .i64 k0d, (.slice Ak nk ck), (.slice A2 n2 c2'), (.slice Ap np cp)] (.slice Ak nk ck) (.slice A2 n2 c2') (.slice Ap np cp) key (putJ bytes (sh : Int) ((n7 : Int) - (sh : Int)) (v.size : Int) 2) places by rw [← hWY]; exact HBX.out.put 7 _)
      clear hWY
      go_roundg gk1
      case measure => have := HKQ.out; omega
      case rel => exact ⟨2, A2, n2, c2', rfl, by omega, by have := HKQ.out; omega, HBY⟩
    by_cases hj2 : j = 2
    · subst hj2
      rw [show ((2 : Nat) : Int) = 2 from rfl]
      have p7 : wr.cell? ⟨g, 7, none⟩ = some (.slice A1 n1 c1) := (blk_cell HBS.out.cell 7).trans rfl
      have hu : IntKind.u64.wrap (v.size : Int) = (v.size : Int) := by rw [Go.IntKind.wrap_u64]; have := HSZ.out; omega
      have hix := idx2 (.int .i64 (sh : Int)) (.int .i64 ((n7 : Int) - (sh : Int))) (.int .i64 (v.size : Int))
      have HPV := Aside0.mk (codec_PutVarint.calls 16 A1 c1 (putJ bytes (sh : Int) ((n7 : Int) - (sh : Int)) (v.size : Int) 2) (v.size : Int) (putJ bytes (sh : Int) ((n7 : Int) - (sh : Int)) (v.size : Int) 3) wr HC1.out.2 (by have h1 := HC1.out.1; have h2 := HN1.out; omega) (PutVarint_eq 16 _ (v.size : Int) (by omega) (by have := HSZ.out; omega) (by have := HL1.out; omega) (by omega)))
      rw [← HN1.out] at HPV
      have HKQ := Aside0.mk hkq
      clear hkq hj3 hj0 hj1
      go_wp2_with fail
      (with_reducible refine HPV.out.mono ?_)
      rintro e wx ⟨v', rfl, hr', hb'⟩
      obtain ⟨A2, c2', rfl, _, _⟩ := Kd.R_reads hr'
      obtain ⟨n2, hn2⟩ : ∃ x, (putJ bytes (sh : Int) ((n7 : Int) - (sh : Int)) (v.size : Int) 3).length = x := ⟨_, rfl⟩
      rw [hn2] at hr' ⊢
      have p7x : wx.cell? ⟨g, 7, none⟩ = some (.slice A1 n1 c1) := (blk_cell (HBS.out.later hb').cell 7).trans rfl
      have f7x := blk_frozen (HBS.out.later hb').cell 7
      have HBX := Aside0.mk (HBS.out.newB hb' hr')
      clear hr' hb' hn2 p7 HPV hu hix
      go_wp2
      generalize hWY : wx.setCell _ _ = wy
      have HBY := Aside0.mk (show BS w wy (Own3 g (.slice Ak nk ck) (.slice Ab nb cb) (.slice Ap np cp)) g base q4 (ks, kn, kd) A7 n7 c7 kl #[.int .i64 r, .int .i64 s, .int .i64 n, .string k0s, .int .u64 k0n, .int .i64 k0d, (.slice Ak nk ck), (.slice A2 n2 c2'), (.slice Ap np cp)] (.slice Ak nk ck) (.slice A2 n2 c2') (.slice Ap np cp) key (putJ bytes (sh : Int) ((n7 : Int) - (sh : Int)) (v.size : Int) 3) places by rw [← hWY]; exact HBX.out.put 7 _)
      clear hWY
      go_roundg gk1
      case measure => have := HKQ.out; omega
      case rel => exact ⟨3, A2, n2, c2', rfl, by omega, by have := HKQ.out; omega, HBY⟩
    obtain rfl : j = 3 := by omega
    rw [show ((3 : Nat) : Int) = 3 from rfl]
    clear hkq hj3 hj0 hj1 hj2
    obtain ⟨i0, hi0, _, hsz0, _⟩ := info_parts HI.out
    have hcut := cut_from (P := Try.prog) 23 5 .i64 Try.underlying23 hi0 1 hsz0 A7 n7 c7 (sh : Int) (by omega) (by omega)
    rw [show ((sh : Int) : Int).toNat = sh from rfl] at hcut
    obtain ⟨A8, hA8⟩ : ∃ x, (if c7 = sh then A7 else A7.map (·.add (sh * 1))) = x := ⟨_, rfl⟩
    obtain ⟨m8, hm8⟩ : ∃ x, n7 - sh = x := ⟨_, rfl⟩
    obtain ⟨c8, hc8⟩ : ∃ x, c7 - sh = x := ⟨_, rfl⟩
    rw [hA8, hm8, hc8] at hcut
    have HC8 := Aside0.mk (show ∀ X, Kd.R (Kd.int .u8) 5 X base (fun _ => True) (.slice A7 n7 c7) kl → Kd.C (Kd.int .u8) X A8 m8 (kl.drop sh) from fun X h => by
      have h2 := Kd.R_reads' h
      have h3 := Kd.C_drop (c := c7) (m := sh) h2.2.2 (by have := HN7.out; omega) (by have := HN7.out; have := HC7.out; omega)
      rw [List.length_drop, HN7.out, hm8] at h3
      rw [← hA8]
      exact h3)
    have HM8 := Aside0.mk (show m8 ≤ 1032 by have := HKL2.out; omega)
    have p7 : wr.cell? ⟨g, 7, none⟩ = some (.slice A1 n1 c1) := (blk_cell HBS.out.cell 7).trans rfl
    clear hA8 hm8 hc8 hi0 hsz0
    go_wp2_with fail
    refine start_ (n := 14) (S := fun w' => w'.cell? ⟨g, 7, none⟩ = some (.slice A1 n1 c1)) (ds := [13]) #[false, false, false, false, false, false, false, false, false, false, false, false, false, false] (by kernel_rfl) rfl rfl (p7) (fun hHeld => ?_)
    refine pure_ (i := 0) (N := some 101) (v := ?_) (a' := ?_) #[true, false, false, false, false, false, false, false, false, false, false, false, false, false] rfl rfl (by kernel_rfl) (fun _ _ _ h => h) (Or.inl ⟨by rfl, ?_⟩) ?_ ?_
    rotate_left
    · intro w'
      go_simp
      with_reducible rfl
    rotate_left
    · simp only [Act.put, List.setIfInBounds_toArray, List.set_cons_zero, List.set_cons_succ, i64_w, i32_w]
      rfl
    refine pure_ (i := 1) (N := some 102) (v := ?_) (a' := ?_) #[true, true, false, false, false, false, false, false, false, false, false, false, false, false] rfl rfl (by kernel_rfl) (fun _ _ _ h => h) (Or.inl ⟨by rfl, ?_⟩) ?_ ?_
    rotate_left
    · intro w'
      go_simp
      with_reducible rfl
    rotate_left
    · simp only [Act.put, List.setIfInBounds_toArray, List.set_cons_zero, List.set_cons_succ, i64_w, i32_w]
      rfl
    refine pure_ (i := 2) (N := some 103) (v := ?_) (a' := ?_) #[true, true, true, false, false, false, false, false, false, false, false, false, false, false] rfl rfl (by kernel_rfl) (fun _ _ _ h => h) (Or.inl ⟨by rfl, ?_⟩) ?_ ?_
    rotate_left
    · intro w'
      go_simp
      with_reducible rfl
    rotate_left
    · simp only [Act.put, List.setIfInBounds_toArray, List.set_cons_zero, List.set_cons_succ, i64_w, i32_w]
      rfl
    refine pure_ (i := 3) (N := some 104) (v := ?_) (a' := ?_) #[true, true, true, true, false, false, false, false, false, false, false, false, false, false] rfl rfl (by kernel_rfl) (fun _ _ _ h => h) (Or.inl ⟨by rfl, ?_⟩) ?_ ?_
    rotate_left
    · intro w'
      go_simp
      with_reducible rfl
    rotate_left
    · simp only [Act.put, List.setIfInBounds_toArray, List.set_cons_zero, List.set_cons_succ, i64_w, i32_w]
      rfl
    refine pure_ (i := 5) (N := some 106) (v := ?_) (a' := ?_) #[true, true, true, true, false, true, false, false, false, false, false, false, false, false] rfl rfl (by kernel_rfl) (fun _ _ _ h => h) (Or.inl ⟨by rfl, ?_⟩) ?_ ?_
    rotate_left
    · intro w'
      go_simp
      with_reducible rfl
    rotate_left
    · simp only [Act.put, List.setIfInBounds_toArray, List.set_cons_zero, List.set_cons_succ, i64_w, i32_w]
      rfl
    refine pure_ (i := 6) (N := some 107) (v := ?_) (a' := ?_) #[true, true, true, true, false, true, true, false, false, false, false, false, false, false] rfl rfl (by kernel_rfl) (fun _ _ _ h => h) (Or.inl ⟨by rfl, ?_⟩) ?_ ?_
    rotate_left
    · intro w'
      go_simp
      with_reducible rfl
    rotate_left
    · simp only [Act.put, List.setIfInBounds_toArray, List.set_cons_zero, List.set_cons_succ, i64_w, i32_w]
      rfl
    refine pure_ (i := 7) (N := some 108) (v := ?_) (a' := ?_) #[true, true, true, true, false, true, true, true, false, false, false, false, false, false] rfl rfl (by kernel_rfl) (fun _ _ _ h => h) (Or.inl ⟨by rfl, ?_⟩) ?_ ?_
    rotate_left
    · intro w'
      go_simp
      with_reducible rfl
    rotate_left
    · simp only [Act.put, List.setIfInBounds_toArray, List.set_cons_zero, List.set_cons_succ, i64_w, i32_w]
      rfl
    refine pure_ (i := 9) (N := some 110) (v := ?_) (a' := ?_) #[true, true, true, true, false, true, true, true, false, true, false, false, false, false] rfl rfl (by kernel_rfl) (fun _ _ _ h => h) (Or.inl ⟨by rfl, ?_⟩) ?_ ?_
    rotate_left
    · intro w'
      go_simp
      with_reducible rfl
    rotate_left
    · simp only [Act.put, List.setIfInBounds_toArray, List.set_cons_zero, List.set_cons_succ, i64_w, i32_w]
      rfl
    refine take_ (i := 4) (N := some 105) (v := ?_) (a' := ?_) #[true, true, true, true, true, true, true, true, false, true, false, false, false, false] rfl rfl (by kernel_rfl) (fun _ _ _ h => h) (Or.inl ⟨by rfl, ?_⟩) hHeld ?_ ?_
    rotate_left
    · intro w' s0
      go_simp
      with_reducible rfl
    rotate_left
    · simp only [Act.put, List.setIfInBounds_toArray, List.set_cons_zero, List.set_cons_succ, i64_w, i32_w]
      rfl
    refine one_ (i := 8) (N := some 109) #[true, true, true, true, true, true, true, true, true, true, false, false, false, false] rfl rfl (by kernel_rfl) (by decide) (fun K hK => ?_)
    refine Kd.R_append_rows_step (Kd.int .u8) (w0 := w) (W := wr.drew) base (by rfl) (.tmp 105) (.tmp 108) 23 5 (.int .u8 0) 1 rfl Try.underlying23 HI.out rfl (by decide) (by decide) (.slice A1 n1 c1) (putJ bytes (sh : Int) ((n7 : Int) - (sh : Int)) (v.size : Int) 3) (kl.drop sh) A8 m8 c8 (fun _ => True) (fun _ => False) rfl rfl (HBS.out.later (below_drew1 (Below.refl _ _))).bytes (HC8.out _ (HBS.out.later (below_drew1 (Below.refl _ _))).row7) (fun _ _ h => h) (fun _ h => h.elim) (fun _ _ => trivial) (HBS.out.later (below_drew1 (Below.refl _ _))).below (by have h1 := HBS.out.bw; have h2 := HBS.out.kept.1; exact Nat.le_trans h1 h2) (by have h1 := HL1.out; have h2 := HM8.out; omega) ?_
    intro v9 w9 ho hb hg hat
    obtain ⟨A9, c9, rfl, _, _⟩ := Kd.R_reads ho
    obtain ⟨n9, hn9⟩ : ∃ x, ((putJ bytes (sh : Int) ((n7 : Int) - (sh : Int)) (v.size : Int) 3) ++ kl.drop sh).length = x := ⟨_, rfl⟩
    rw [hn9] at ho hat ⊢
    have HN9 := Aside0.mk (show n9 ≤ nb + 1062 by rw [← hn9, List.length_append, List.length_drop]; have h1 := HL1.out; have h2 := HN7.out; have h3 := HKL2.out; omega)
    have HN9b := Aside0.mk hn9
    have HBS9 := Aside0.mk (show BS w w9 (Own3 g (.slice Ak nk ck) (.slice Ab nb cb) (.slice Ap np cp)) g base q4 (ks, kn, kd) A7 n7 c7 kl #[.int .i64 r, .int .i64 s, .int .i64 n, .string k0s, .int .u64 k0n, .int .i64 k0d, (.slice Ak nk ck), (.slice A1 n1 c1), (.slice Ap np cp)] (.slice Ak nk ck) (.slice A9 n9 c9) (.slice Ap np cp) key ((putJ bytes (sh : Int) ((n7 : Int) - (sh : Int)) (v.size : Int) 3) ++ kl.drop sh) places from (HBS.out.later (below_drew1 (Below.refl _ _))).grownB hg ho hat)
    have t7 : w9.cell? ⟨g, 7, none⟩ = some (.slice A1 n1 c1) := (blk_cell HBS9.out.cell 7).trans rfl
    clear ho hb hg hat hn9
    refine hK.out _ _ (t7) (fun hHeld => ?_)
    clear hK K
    refine norm_ (a' := ?_) ?_ ?_
    rotate_left
    · show Act.put _ (some 109) _ = _
      simp only [Act.put, List.setIfInBounds_toArray, List.set_cons_zero, List.set_cons_succ, i64_w, i32_w]
      rfl
    refine one_ (i := 10) (N := some 111) #[true, true, true, true, true, true, true, true, true, true, true, false, false, false] rfl rfl (by kernel_rfl) (by decide) (fun K hK => ?_)
    refine R_append_str_step (W := w9) base (by rfl) (.tmp 109) (.tmp 110) 23 9 5 rfl Try.underlying23 Try.underlying9 HI.out (.slice A9 n9 c9) ((putJ bytes (sh : Int) ((n7 : Int) - (sh : Int)) (v.size : Int) 3) ++ kl.drop sh) v rfl rfl HBS9.out.bytes (by have h1 := HBS9.out.bw; have h2 := HBS9.out.kept.1; exact Nat.le_trans h1 h2) (by rw [HN9b.out]; have h1 := HN9.out; have h2 := HSZ.out; omega) ?_
    intro v10 wA ho hg hat
    obtain ⟨AA, cA, rfl, _, _⟩ := Kd.R_reads ho
    obtain ⟨nA, hnA⟩ : ∃ x, ((putJ bytes (sh : Int) ((n7 : Int) - (sh : Int)) (v.size : Int) 3) ++ kl.drop sh ++ bytesOf v).length = x := ⟨_, rfl⟩
    rw [hnA] at ho hat ⊢
    have HBSA := Aside0.mk (show BS w wA (Own3 g (.slice Ak nk ck) (.slice Ab nb cb) (.slice Ap np cp)) g base q4 (ks, kn, kd) A7 n7 c7 kl #[.int .i64 r, .int .i64 s, .int .i64 n, .string k0s, .int .u64 k0n, .int .i64 k0d, (.slice Ak nk ck), (.slice A1 n1 c1), (.slice Ap np cp)] (.slice Ak nk ck) (.slice AA nA cA) (.slice Ap np cp) key ((putJ bytes (sh : Int) ((n7 : Int) - (sh : Int)) (v.size : Int) 3) ++ kl.drop sh ++ bytesOf v) places from HBS9.out.grownB hg ho hat)
    have s7 : wA.cell? ⟨g, 7, none⟩ = some (.slice A1 n1 c1) := (blk_cell HBSA.out.cell 7).trans rfl
    have f7 := blk_frozen HBSA.out.cell 7
    clear ho hg hat hnA
    refine hK.out _ _ (s7) (fun hHeld => ?_)
    clear hK K
    refine norm_ (a' := ?_) ?_ ?_
    rotate_left
    · show Act.put _ (some 111) _ = _
      simp only [Act.put, List.setIfInBounds_toArray, List.set_cons_zero, List.set_cons_succ, i64_w, i32_w]
      rfl
    refine pure_ (i := 11) (N := some 112) (v := ?_) (a' := ?_) #[true, true, true, true, true, true, true, true, true, true, true, true, false, false] rfl rfl (by kernel_rfl) (fun _ _ _ h => h) (Or.inl ⟨by rfl, ?_⟩) ?_ ?_
    rotate_left
    · intro w'
      go_simp
      with_reducible rfl
    rotate_left
    · simp only [Act.put, List.setIfInBounds_toArray, List.set_cons_zero, List.set_cons_succ, i64_w, i32_w]
      rfl
    refine pure_ (i := 12) (N := some 113) (v := ?_) (a' := ?_) #[true, true, true, true, true, true, true, true, true, true, true, true, true, false] rfl rfl (by kernel_rfl) (fun _ _ _ h => h) (Or.inl ⟨by rfl, ?_⟩) ?_ ?_
    rotate_left
    · intro w'
      go_simp
      with_reducible rfl
    rotate_left
    · simp only [Act.put, List.setIfInBounds_toArray, List.set_cons_zero, List.set_cons_succ, i64_w, i32_w]
      rfl
    refine last_ (i := 13) (N := none) #[true, true, true, true, true, true, true, true, true, true, true, true, true, true] rfl rfl (by kernel_rfl) (by decide) (fun K hK => ?_)
    refine skip_ (w1 := ?_) (by rfl) rfl ?_ ?_
    rotate_left
    · go_simp
      rfl
    generalize hWB : wA.setCell _ _ = wB
    have HBSB := Aside0.mk (show BS w wB (Own3 g (.slice Ak nk ck) (.slice Ab nb cb) (.slice Ap np cp)) g base q4 (ks, kn, kd) A7 n7 c7 kl #[.int .i64 r, .int .i64 s, .int .i64 n, .string k0s, .int .u64 k0n, .int .i64 k0d, (.slice Ak nk ck), (.slice AA nA cA), (.slice Ap np cp)] (.slice Ak nk ck) (.slice AA nA cA) (.slice Ap np cp) key ((putJ bytes (sh : Int) ((n7 : Int) - (sh : Int)) (v.size : Int) 3) ++ kl.drop sh ++ bytesOf v) places by rw [← hWB]; exact HBSA.out.put 7 _)
    clear hWB
    refine hK.out _ _ ?_
    clear hK K
    refine done_ (by kernel_rfl) ?_
    have HBS := HBSB
    clear p7 hHeld t7 s7 f7 HBS9 HBSA HBSB HN9 HN9b HC8 HM8 hcut
    have hkc : nk ≤ ck := by have h1 := (Kd.R_reads' HBS.out.key).2.1; have h2 := HNK.out; omega
    obtain ⟨i1, hi1, _, _, _⟩ := info_parts HI.out
    have hcut0 := cut_to (P := Try.prog) 23 5 .i64 Try.underlying23 hi1 Ak nk ck 0 (by omega) (by omega) hkc
    rw [show (0 : Int).toNat = 0 from rfl] at hcut0
    clear hi1 hkc
    have HC7x := Aside0.mk (show ∀ X, Kd.R (Kd.int .u8) 5 X base (fun _ => True) (.slice A7 n7 c7) kl → Kd.C (Kd.int .u8) X A7 n7 kl from fun X h => by have h2 := (Kd.R_reads' h).2.2; rw [HN7.out] at h2; exact h2)
    have HK0 := Aside0.mk (Kd.R_take (m := 0) HBS.out.key (Nat.zero_le _))
    have p6 : wB.cell? ⟨g, 6, none⟩ = some (.slice Ak nk ck) := (blk_cell HBS.out.cell 6).trans rfl
    go_wp2_with (first | ((with_reducible refine gate_builtin (b := .append) (xs := #[.tmp 119, .tmp 121]) rfl ?_); at_builtin; refine Kd.R_append_zeros (Kd.int .u8) (w0 := w) base rfl (.tmp 119) (.tmp 121) 23 3 5 (.int .u8 0) 1 rfl Try.underlying23 Try.underlying3 HI.out rfl (by decide) (by decide) (.slice Ak 0 ck) (key.take 0) (0 : Int) (kx := .i64) (n7 : Int) (fun _ => True) rfl rfl rfl (fun _ _ => trivial) HK0.out (by omega) HBS.out.below (by have h1 := HBS.out.bw; have h2 := HBS.out.kept.1; exact Nat.le_trans h1 h2) (by rw [Int.toNat_natCast, List.take_zero, List.length_nil]; have := HKL2.out; omega) ?_; intro v11 wC ho hb hg hat; rw [Int.toNat_natCast, List.take_zero, List.nil_append] at ho; obtain ⟨b6, c6, rfl, _, _, _⟩ := Kd.R_form ho (by rw [List.length_replicate]; have := HKL4.out; omega); rw [List.length_replicate] at ho hat ⊢; rw [own_len Ak 0 ck nk ck] at hg hat; have HBSC := Aside0.mk (show BS w wC (Own3 g (.slice Ak nk ck) (.slice Ab nb cb) (.slice Ap np cp)) g base q4 (ks, kn, kd) A7 n7 c7 kl #[.int .i64 r, .int .i64 s, .int .i64 n, .string k0s, .int .u64 k0n, .int .i64 k0d, (.slice Ak nk ck), (.slice AA nA cA), (.slice Ap np cp)] (.slice (some ⟨b6, 0, none⟩) n7 c6) (.slice AA nA cA) (.slice Ap np cp) (List.replicate n7 0) ((putJ bytes (sh : Int) ((n7 : Int) - (sh : Int)) (v.size : Int) 3) ++ kl.drop sh ++ bytesOf v) places from HBS.out.grownK hg ho hat); have t6 : wC.cell? ⟨g, 6, none⟩ = some (.slice Ak nk ck) := (blk_cell HBSC.out.cell 6).trans rfl; have f6 := blk_frozen HBSC.out.cell 6; have HBSD := Aside0.mk (show BS w (wC.setCell ⟨g, 6, none⟩ (.slice (some ⟨b6, 0, none⟩) n7 c6)) (Own3 g (.slice Ak nk ck) (.slice Ab nb cb) (.slice Ap np cp)) g base q4 (ks, kn, kd) A7 n7 c7 kl #[.int .i64 r, .int .i64 s, .int .i64 n, .string k0s, .int .u64 k0n, .int .i64 k0d, (.slice (some ⟨b6, 0, none⟩) n7 c6), (.slice AA nA cA), (.slice Ap np cp)] (.slice (some ⟨b6, 0, none⟩) n7 c6) (.slice AA nA cA) (.slice Ap np cp) (List.replicate n7 0) ((putJ bytes (sh : Int) ((n7 : Int) - (sh : Int)) (v.size : Int) 3) ++ kl.drop sh ++ bytesOf v) places from HBSC.out.put 6 _); have u6 := (blk_cell HBSD.out.cell 6).trans (show _ = some (.slice (some ⟨b6, 0, none⟩) n7 c6) from rfl); clear ho hb hg hat HK0 p6 hcut0) | ((with_reducible refine gate_builtin (b := .copy) (xs := #[.tmp 128, .tmp 129]) rfl ?_); refine Kd.R_copy (enc := Value.int .u8) (h1 := fun _ => rfl) (0 : Int) (w0 := w) base rfl (.tmp 128) (.tmp 129) 23 23 5 rfl Try.underlying23 (by kernel_rfl) (.slice (some ⟨b6, 0, none⟩) n7 c6) (List.replicate n7 0) kl A7 n7 c7 (fun _ => True) rfl rfl HBSD.out.key (HC7x.out _ HBSD.out.row7) HBSD.out.below (by have h1 := HBSD.out.bw; have h2 := HBSD.out.kept.1; exact Nat.le_trans h1 h2) ?_; intro wE ho hb hg; rw [List.length_replicate, Nat.min_self, List.take_of_length_le (Nat.le_of_eq HN7.out), List.drop_of_length_le (by rw [List.length_replicate]; exact Nat.le_refl _), List.append_nil] at ho; have HBSE := Aside0.mk (show BS w wE (Own3 g (.slice Ak nk ck) (.slice Ab nb cb) (.slice Ap np cp)) g base q4 (ks, kn, kd) A7 n7 c7 kl #[.int .i64 r, .int .i64 s, .int .i64 n, .string k0s, .int .u64 k0n, .int .i64 k0d, (.slice (some ⟨b6, 0, none⟩) n7 c6), (.slice AA nA cA), (.slice Ap np cp)] (.slice (some ⟨b6, 0, none⟩) n7 c6) (.slice AA nA cA) (.slice Ap np cp) kl ((putJ bytes (sh : Int) ((n7 : Int) - (sh : Int)) (v.size : Int) 3) ++ kl.drop sh ++ bytesOf v) places from HBSD.out.grownK hg ho (.inl rfl)); clear ho hb hg u6 t6 f6 HBSC HBSD; have q40 := (blk_cell HBSE.out.box4 0).trans (show _ = some (.string ks) from rfl); have q41 := (blk_cell HBSE.out.box4 1).trans (show _ = some (.int .u64 kn) from rfl); have q42 := (blk_cell HBSE.out.box4 2).trans (show _ = some (.int .i64 kd) from rfl); have t3 := (blk_cell HBSE.out.cell 3).trans (show _ = some (.string k0s) from rfl); have t4 := (blk_cell HBSE.out.cell 4).trans (show _ = some (.int .u64 k0n) from rfl); have t5 := (blk_cell HBSE.out.cell 5).trans (show _ = some (.int .i64 k0d) from rfl); have f3 := blk_frozen HBSE.out.cell 3; have f4 := blk_frozen HBSE.out.cell 4; have f5 := blk_frozen HBSE.out.cell 5; have HBSF := Aside0.mk (show BS w (((wE.setCell ⟨g, 3, none⟩ (.string ks)).setCell ⟨g, 4, none⟩ (.int .u64 kn)).setCell ⟨g, 5, none⟩ (.int .i64 kd)) (Own3 g (.slice Ak nk ck) (.slice Ab nb cb) (.slice Ap np cp)) g base q4 (ks, kn, kd) A7 n7 c7 kl #[.int .i64 r, .int .i64 s, .int .i64 n, .string ks, .int .u64 kn, .int .i64 kd, (.slice (some ⟨b6, 0, none⟩) n7 c6), (.slice AA nA cA), (.slice Ap np cp)] (.slice (some ⟨b6, 0, none⟩) n7 c6) (.slice AA nA cA) (.slice Ap np cp) kl ((putJ bytes (sh : Int) ((n7 : Int) - (sh : Int)) (v.size : Int) 3) ++ kl.drop sh ++ bytesOf v) places from ((HBSE.out.put 3 _).put 4 _).put 5 _); have u1 := (blk_cell HBSF.out.cell 1).trans (show _ = some (.int .i64 s) from rfl); have fr1 := blk_frozen HBSF.out.cell 1; have HBSG := Aside0.mk (show BS w ((((wE.setCell ⟨g, 3, none⟩ (.string ks)).setCell ⟨g, 4, none⟩ (.int .u64 kn)).setCell ⟨g, 5, none⟩ (.int .i64 kd)).setCell ⟨g, 1, none⟩ (.int .i64 (s + 1))) (Own3 g (.slice Ak nk ck) (.slice Ab nb cb) (.slice Ap np cp)) g base q4 (ks, kn, kd) A7 n7 c7 kl #[.int .i64 r, .int .i64 (s + 1), .int .i64 n, .string ks, .int .u64 kn, .int .i64 kd, (.slice (some ⟨b6, 0, none⟩) n7 c6), (.slice AA nA cA), (.slice Ap np cp)] (.slice (some ⟨b6, 0, none⟩) n7 c6) (.slice AA nA cA) (.slice Ap np cp) kl ((putJ bytes (sh : Int) ((n7 : Int) - (sh : Int)) (v.size : Int) 3) ++ kl.drop sh ++ bytesOf v) places from HBSF.out.put 1 _); have u2 := (blk_cell HBSG.out.cell 2).trans (show _ = some (.int .i64 n) from rfl); have fr2 := blk_frozen HBSG.out.cell 2; have HBSH := Aside0.mk (show BS w (((((wE.setCell ⟨g, 3, none⟩ (.string ks)).setCell ⟨g, 4, none⟩ (.int .u64 kn)).setCell ⟨g, 5, none⟩ (.int .i64 kd)).setCell ⟨g, 1, none⟩ (.int .i64 (s + 1))).setCell ⟨g, 2, none⟩ (.int .i64 (n + 1))) (Own3 g (.slice Ak nk ck) (.slice Ab nb cb) (.slice Ap np cp)) g base q4 (ks, kn, kd) A7 n7 c7 kl #[.int .i64 r, .int .i64 (s + 1), .int .i64 (n + 1), .string ks, .int .u64 kn, .int .i64 kd, (.slice (some ⟨b6, 0, none⟩) n7 c6), (.slice AA nA cA), (.slice Ap np cp)] (.slice (some ⟨b6, 0, none⟩) n7 c6) (.slice AA nA cA) (.slice Ap np cp) kl ((putJ bytes (sh : Int) ((n7 : Int) - (sh : Int)) (v.size : Int) 3) ++ kl.drop sh ++ bytesOf v) places from HBSG.out.put 2 _)))
    go_ret
    have hK : kl = keyB (ks, kn, kd) := HKL.out.symm
    have hB : ((putJ bytes (sh : Int) ((n7 : Int) - (sh : Int)) (v.size : Int) 3) ++ kl.drop sh ++ bytesOf v) = bytes ++ entB (sharedN key (keyB (ks, kn, kd))) (keyB (ks, kn, kd)) v := by
      rw [← hK]
      rw [HSH.out]
      unfold entB putJ
      rw [HN7.out]
      simp only [List.append_assoc]
    have h1 := HBSH.out.key
    have h2 := HBSH.out.bytes
    have h3 := HBSH.out.places
    rw [hK] at h1
    rw [hB] at h2
    exact ⟨_, _, _, rfl, ⟨HBSH.out.cell, h1, h2, h3, HBSH.out.sep, HBSH.out.gb, Nat.le_trans HBSH.out.bw HBSH.out.kept.1⟩, HBSH.out.below, HBSH.out.kept⟩

end Go.Proofs.Ytbhifenkfoddgaa.G

/- Contracts typed by hand: a block's Builder: what is refused; a new one; copies; its bytes -/
namespace Go.Proofs.Ytbhifenkfoddgaa.G
open Go.RowKit Go.Proofs.YtbhifenkfoddgaaW.PrintWords Go.Proofs.YtbhifenkfoddgaaW.PrintLast Go.Proofs.YtbhifenkfoddgaaW.PrintMore
attribute [local go_sem] max2_int min2_int max_two min_two max_three min_three max_four min_four
set_option linter.unusedVariables false
set_option linter.unusedSimpArgs false

/-! a block's Builder: what is refused; a new one; copies; its bytes -/
theorem bu_new (r : Int) (h1 : 1 ≤ r) (h2 : r ≤ 64) (w : World) : Calls Try.prog 10 #[.int .i64 r] w fun e w' => ∃ g, e = .returned (.tuple #[.pointer (some ⟨g, 0, none⟩), .int .i64 0]) ∧ BuAt w' g w.heap.size r 0 0 (⟨#[]⟩, 0, 0) (.slice none 0 0) (.slice none 0 0) (.slice none 0 0) [] [] [] ∧ Below w.heap.size w w' := by
  have HB := Aside0.mk (Below.refl w.heap.size w)
  have b1 : decide (r < 1) = false := decide_eq_false (by omega)
  have b2 : decide (r > 64) = false := decide_eq_false (by omega)
  have b2' : decide (64 < r) = false := decide_eq_false (by omega)
  have HX := Aside0.mk (blk_new w (.cells #[.int .i64 r, .int .i64 0, .int .i64 0, .string (⟨#[]⟩ : ByteArray), .int .u64 0, .int .i64 0, .slice none 0 0, .slice none 0 0, .slice none 0 0] 45))
  clear h1 h2
  go_enter Try.func10, Try.ntmps10
  go_wp2
  refine bodyPost_ret (by simp [results, Try.results10, go_sem]; rfl) rfl ?_
  have hb := below_alloc HB.out (.cells #[.int .i64 r, .int .i64 0, .int .i64 0, .string (⟨#[]⟩ : ByteArray), .int .u64 0, .int .i64 0, .slice none 0 0, .slice none 0 0, .slice none 0 0] 45)
  exact ⟨_, rfl, ⟨HX.out, Kd.R_nil _ _ _ _ _, Kd.R_nil _ _ _ _ _, Kd.R_nil _ _ _ _ _, (fun q e => by cases e), Nat.le_refl _, hb.size⟩, hb⟩
set_option maxHeartbeats 4000000 in
theorem bu_arg (w : World) (g : Nat) (r : Int) (hr : 1 ≤ r) (hc : w.cell? ⟨g, 0, none⟩ = some (.int .i64 r)) (ks : ByteArray) (kn kd : Int) (v : ByteArray) (hkn : 0 ≤ kn) (hbad : validOf ks kn kd = false ∨ 65536 < v.size) :
    Calls Try.prog 18 #[.pointer (some ⟨g, 0, none⟩), .agg #[.string ks, .int .u64 kn, .int .i64 kd], .string v] w fun e w' => e = .returned (.int .i64 2) ∧ Below w.heap.size w w' := by
  obtain ⟨W0, hW0⟩ : ∃ W0, w.alloc (.cells #[.string ks, .int .u64 kn, .int .i64 kd] 28) = W0 := ⟨_, rfl⟩
  have hb0 : Below w.heap.size w W0 := by rw [← hW0]; exact below_alloc (Below.refl _ _) _
  have hx0 : W0.heap[w.heap.size]? = some (.cells #[.string ks, .int .u64 kn, .int .i64 kd] 28 (0, 0)) := by rw [← hW0]; exact blk_new w _
  have HB0 := Aside0.mk hb0
  have HW := Aside0.mk hW0
  have HNN := Aside0.mk (bu_none g r (by omega) W0 (pw_cell_below hb0 hc))
  have ck0 := (blk_cell hx0 0).trans (show _ = some (.string ks) from rfl)
  have ck1 := (blk_cell hx0 1).trans (show _ = some (.int .u64 kn) from rfl)
  have ck2 := (blk_cell hx0 2).trans (show _ = some (.int .i64 kd) from rfl)
  obtain ⟨q4, hq4⟩ : ∃ q, w.heap.size = q := ⟨_, rfl⟩
  have HQ4 := Aside0.mk hq4
  by_cases hv : validOf ks kn kd = true
  · have hs : 65536 < v.size := hbad.resolve_left (by rw [hv]; simp)
    have d1 : decide ((v.size : Int) > 65536) = true := decide_eq_true (by omega)
    have d1' : decide (65536 < v.size) = true := decide_eq_true hs
    have HEN := Aside0.mk (show ikey_Encode.f 16 ks kn kd = some (bytesOf ks ++ fixF 8 (kn * 256 + kd), 0) by rw [encode_eq 16 ks kn kd hkn (by omega)]; unfold encK; rw [if_pos hv])
    obtain ⟨kl, hkl3⟩ : ∃ l, bytesOf ks ++ fixF 8 (kn * 256 + kd) = l := ⟨_, rfl⟩
    rw [hkl3] at HEN
    clear hb0 hx0 hW0 hc hr hbad hv hs hkl3 hq4
    go_enter Try.func18, Try.ntmps18
    go_wp2_with fail
    rw [HW.out]
    (with_reducible refine HNN.out.mono ?_)
    rintro e w1 ⟨rfl, rfl⟩
    go_wp2_with fail
    (with_reducible refine (ikey_Encode.calls 16 ks kn kd kl 0 _ HEN.out).mono ?_)
    rintro e w2 ⟨v7, rfl, _, hb⟩
    have HB := Aside0.mk (below_step HB0.out hb)
    clear hb
    go_wp2
    go_ret
    exact ⟨rfl, HB.out⟩
  · have HEN := Aside0.mk (show ikey_Encode.f 16 ks kn kd = some ([], 2) by rw [encode_eq 16 ks kn kd hkn (by omega)]; unfold encK; rw [if_neg hv])
    clear hb0 hx0 hW0 hc hr hbad hv hq4
    go_enter Try.func18, Try.ntmps18
    go_wp2_with fail
    rw [HW.out]
    (with_reducible refine HNN.out.mono ?_)
    rintro e w1 ⟨rfl, rfl⟩
    go_wp2_with fail
    (with_reducible refine (ikey_Encode.calls 16 ks kn kd [] 2 _ HEN.out).mono ?_)
    rintro e w2 ⟨v7, rfl, _, hb⟩
    have HB := Aside0.mk (below_step HB0.out hb)
    clear hb
    go_wp2
    go_ret
    exact ⟨rfl, HB.out⟩
set_option maxHeartbeats 16000000 in
set_option maxRecDepth 100000 in
theorem bu_add_order (w : World) (g base : Nat) (r s n : Int) (k0s : ByteArray) (k0n k0d : Int) (Ak : Option Addr) (nk ck : Nat) (Ab : Option Addr) (nb cb : Nat) (Ap : Option Addr) (np cp : Nat) (key bytes places : List Int) (ks : ByteArray) (kn kd : Int) (v : ByteArray)
    (h : BuAt w g base r s n (k0s, k0n, k0d) (.slice Ak nk ck) (.slice Ab nb cb) (.slice Ap np cp) key bytes places) (hr : 1 ≤ r) (hkn : 0 ≤ kn) (hv : validOf ks kn kd = true) (hsz : v.size ≤ 65536) (hn0 : 0 ≤ n) (hn1 : n ≤ 1099511627776) (hs0 : 0 ≤ s) (hs1 : s ≤ 1099511627776) (hbl : bytes.length ≤ 1099511627776) (hpl : places.length ≤ 1099511627776) (hkl : key.length ≤ 1099511627776) (hn : 0 < n) (hc : 0 ≤ kc k0s.toList k0n k0d ks.toList kn kd) :
    Calls Try.prog 18 #[.pointer (some ⟨g, 0, none⟩), .agg #[.string ks, .int .u64 kn, .int .i64 kd], .string v] w fun e w' => e = .returned (.int .i64 80) ∧ Below w.heap.size w w' := by
  have hvp := validOf_parts hv
  have hkl2 : (bytesOf ks ++ fixF 8 (kn * 256 + kd)).length = ks.size + 8 := by rw [List.length_append, bytesOf_length, fixF_len]
  have HEN := Aside0.mk (show ikey_Encode.f 16 ks kn kd = some (bytesOf ks ++ fixF 8 (kn * 256 + kd), 0) by rw [encode_eq 16 ks kn kd hkn (by omega)]; unfold encK; rw [if_pos hv])
  obtain ⟨kl, hkl3⟩ : ∃ l, bytesOf ks ++ fixF 8 (kn * 256 + kd) = l := ⟨_, rfl⟩
  rw [hkl3] at HEN hkl2
  have HKL := Aside0.mk hkl3
  obtain ⟨W0, hW0⟩ : ∃ W0, w.alloc (.cells #[.string ks, .int .u64 kn, .int .i64 kd] 28) = W0 := ⟨_, rfl⟩
  have hb0 : Below w.heap.size w W0 := by rw [← hW0]; exact below_alloc (Below.refl _ _) _
  have hx0 : W0.heap[w.heap.size]? = some (.cells #[.string ks, .int .u64 kn, .int .i64 kd] 28 (0, 0)) := by rw [← hW0]; exact blk_new w _
  have HX0 := Aside0.mk hx0
  have HB0 := Aside0.mk hb0
  have HBU := Aside0.mk (h.below hb0)
  have HW := Aside0.mk hW0
  have HGB := Aside0.mk h.gb
  have HBW := Aside0.mk h.bw
  have HNN := Aside0.mk (bu_none g r (by omega) W0 (by rw [← hW0]; exact (pw_cell_below hb0 ((blk_cell h.cell 0).trans rfl)) |> fun q => by rw [hW0]; exact q))
  have ck0 := (blk_cell hx0 0).trans (show _ = some (.string ks) from rfl)
  have ck1 := (blk_cell hx0 1).trans (show _ = some (.int .u64 kn) from rfl)
  have ck2 := (blk_cell hx0 2).trans (show _ = some (.int .i64 kd) from rfl)
  have d1 : decide ((v.size : Int) > 65536) = false := decide_eq_false (by omega)
  have d1' : decide (65536 < v.size) = false := decide_eq_false (by omega)
  have HSZ := Aside0.mk hsz
  have hks : ks.size ≤ 1024 := hvp.2.1
  obtain ⟨q4, hq4⟩ : ∃ q, w.heap.size = q := ⟨_, rfl⟩
  have HQ4 := Aside0.mk hq4
  clear h hW0 hb0 hx0 hv hvp hsz hkl3 hq4
  go_enter Try.func18, Try.ntmps18
  go_wp2_with fail
  rw [HW.out]
  (with_reducible refine HNN.out.mono ?_)
  rintro e w1 ⟨rfl, rfl⟩
  go_wp2_with fail
  (with_reducible refine (ikey_Encode.calls 16 ks kn kd kl 0 _ HEN.out).mono ?_)
  rintro e w2 ⟨v7, rfl, hr7, hb⟩
  obtain ⟨A7, c7, rfl, hc7, _⟩ := Kd.R_reads hr7
  obtain ⟨n7, hn7⟩ : ∃ n, kl.length = n := ⟨_, rfl⟩
  rw [hn7] at hr7 hc7 hkl2 ⊢
  have HN7 := Aside0.mk hn7
  have HC7 := Aside0.mk hc7
  have HKL2 := Aside0.mk (show n7 ≤ 1032 by omega)
  have HKL4 := Aside0.mk (show 8 ≤ n7 by omega)
  have hbu := HBU.out.below hb
  have h0s := HB0.out.size
  have HBS := Aside0.mk (show BS w w2 (Own3 g (.slice Ak nk ck) (.slice Ab nb cb) (.slice Ap np cp)) g base w.heap.size (ks, kn, kd) A7 n7 c7 kl #[.int .i64 r, .int .i64 s, .int .i64 n, .string k0s, .int .u64 k0n, .int .i64 k0d, (.slice Ak nk ck), (.slice Ab nb cb), (.slice Ap np cp)] (.slice Ak nk ck) (.slice Ab nb cb) (.slice Ap np cp) key bytes places from
    ⟨hbu.cell, hbu.key, hbu.bytes, hbu.places, hbu.sep, hbu.gb, HBW.out, (below_step HB0.out hb).mono HBW.out, Kept.of_below (below_step HB0.out hb) _, .inl (.inl rfl), fun q hq => .inl (.inr (.inl hq)), fun q hq => .inl (.inr (.inr (.inl hq))), fun q hq => .inl (.inr (.inr (.inr hq))), Kd.R_lower hr7 (Nat.le_trans HBW.out h0s),
      fun q hq => ⟨fun e => by have h1 := Kd.R_base hr7 q hq; have h2 := Kd.R_lt HBU.out.key q e; omega, fun e => by have h1 := Kd.R_base hr7 q hq; have h2 := Kd.R_lt HBU.out.bytes q e; omega⟩, blk_below HX0.out hb⟩)
  rw [HQ4.out] at HBS ⊢
  have hNb : nb = bytes.length := (Kd.R_reads' HBS.out.bytes).1
  have hNp : np = places.length := (Kd.R_reads' HBS.out.places).1
  have hNk : nk = key.length := (Kd.R_reads' HBS.out.key).1
  have HNB := Aside0.mk hNb
  have HNP := Aside0.mk hNp
  have HNK := Aside0.mk hNk
  rw [← hNb] at hbl
  rw [← hNp] at hpl
  rw [← hNk] at hkl
  have BB2 := below_step HB0.out hb
  clear ck0 ck1 ck2 hr7 hc7 hn7 hkl2 hks hb hbu h0s HX0 HBU HW HNN HEN hNb hNp hNk
  have HB2 := Aside0.mk (show Below w.heap.size w w2 from BB2)
  have e0 : decide (n > 0) = true := decide_eq_true (by omega)
  have e0' : decide (0 < n) = true := decide_eq_true (by omega)
  have p2 : w2.cell? ⟨g, 2, none⟩ = some (.int .i64 n) := (blk_cell HBS.out.cell 2).trans rfl
  have p3 : w2.cell? ⟨g, 3, none⟩ = some (.string k0s) := (blk_cell HBS.out.cell 3).trans rfl
  have p4 : w2.cell? ⟨g, 4, none⟩ = some (.int .u64 k0n) := (blk_cell HBS.out.cell 4).trans rfl
  have p5 : w2.cell? ⟨g, 5, none⟩ = some (.int .i64 k0d) := (blk_cell HBS.out.cell 5).trans rfl
  have p40 : w2.cell? ⟨q4, 0, none⟩ = some (.string ks) := (blk_cell HBS.out.box4 0).trans rfl
  have p41 : w2.cell? ⟨q4, 1, none⟩ = some (.int .u64 kn) := (blk_cell HBS.out.box4 1).trans rfl
  have p42 : w2.cell? ⟨q4, 2, none⟩ = some (.int .i64 kd) := (blk_cell HBS.out.box4 2).trans rfl
  obtain ⟨cv, hcv⟩ : ∃ x, kc k0s.toList k0n k0d ks.toList kn kd = x := ⟨_, rfl⟩
  rw [hcv] at hc
  have HCMP := Aside0.mk (show ikey_Compare.f 8 k0s k0n k0d ks kn kd = some cv by rw [← hcv]; exact compare_eq 4 _ _ _ _ _ _)
  have e1 : decide (cv ≥ 0) = true := decide_eq_true (by omega)
  have e1' : decide (0 ≤ cv) = true := decide_eq_true (by omega)
  clear hcv hc
  go_wp2_with fail
  refine start_ (n := 14) (S := fun w' => w'.cell? ⟨g, 2, none⟩ = some (.int .i64 n) ∧ w'.cell? ⟨g, 3, none⟩ = some (.string k0s) ∧ w'.cell? ⟨g, 4, none⟩ = some (.int .u64 k0n) ∧ w'.cell? ⟨g, 5, none⟩ = some (.int .i64 k0d) ∧ w'.cell? ⟨q4, 0, none⟩ = some (.string ks) ∧ w'.cell? ⟨q4, 1, none⟩ = some (.int .u64 kn) ∧ w'.cell? ⟨q4, 2, none⟩ = some (.int .i64 kd)) (ds := []) #[false, false, false, false, false, false, false, false, false, false, false, false, false, false] (by kernel_rfl) rfl rfl ⟨p2, p3, p4, p5, p40, p41, p42⟩ (fun hHeld => ?_)
  refine pure_ (i := 0) (N := some 26) (v := ?_) (a' := ?_) #[true, false, false, false, false, false, false, false, false, false, false, false, false, false] rfl rfl (by kernel_rfl) (fun _ _ _ h => h) (Or.inl ⟨by rfl, ?_⟩) ?_ ?_
  rotate_left
  · intro w'
    go_simp
    with_reducible rfl
  rotate_left
  · simp only [Act.put, List.setIfInBounds_toArray, List.set_cons_zero, List.set_cons_succ, i64_w, i32_w]
    rfl
  refine pure_ (i := 1) (N := some 27) (v := ?_) (a' := ?_) #[true, true, false, false, false, false, false, false, false, false, false, false, false, false] rfl rfl (by kernel_rfl) (fun _ _ _ h => h) (Or.inl ⟨by rfl, ?_⟩) ?_ ?_
  rotate_left
  · intro w'
    go_simp
    with_reducible rfl
  rotate_left
  · simp only [Act.put, List.setIfInBounds_toArray, List.set_cons_zero, List.set_cons_succ, i64_w, i32_w]
    rfl
  refine pure_ (i := 2) (N := some 28) (v := ?_) (a' := ?_) #[true, true, true, false, false, false, false, false, false, false, false, false, false, false] rfl rfl (by kernel_rfl) (fun _ _ _ h => h) (Or.inl ⟨by rfl, ?_⟩) ?_ ?_
  rotate_left
  · intro w'
    go_simp
    with_reducible rfl
  rotate_left
  · simp only [Act.put, List.setIfInBounds_toArray, List.set_cons_zero, List.set_cons_succ, i64_w, i32_w]
    rfl
  refine take_ (i := 3) (N := some 29) (v := ?_) (a' := ?_) #[true, true, true, true, false, false, false, false, false, false, false, false, false, false] rfl rfl (by kernel_rfl) (fun _ _ _ h => h) (Or.inl ⟨by rfl, ?_⟩) hHeld ?_ ?_
  rotate_left
  · rintro w' ⟨s0, s1, s2, s3, s4, s5, s6⟩
    go_simp
    with_reducible rfl
  rotate_left
  · simp only [Act.put, List.setIfInBounds_toArray, List.set_cons_zero, List.set_cons_succ, i64_w, i32_w]
    rfl
  refine pure_ (i := 4) (N := some 30) (v := ?_) (a' := ?_) #[true, true, true, true, true, false, false, false, false, false, false, false, false, false] rfl rfl (by kernel_rfl) (fun _ _ _ h => h) (Or.inl ⟨by rfl, ?_⟩) ?_ ?_
  rotate_left
  · intro w'
    go_simp
    with_reducible rfl
  rotate_left
  · simp only [Act.put, List.setIfInBounds_toArray, List.set_cons_zero, List.set_cons_succ, i64_w, i32_w]
    rfl
  refine pure_ (i := 5) (N := some 31) (v := ?_) (a' := ?_) #[true, true, true, true, true, true, false, false, false, false, false, false, false, false] rfl rfl (by kernel_rfl) (fun _ _ _ h => h) (Or.inl ⟨by rfl, ?_⟩) ?_ ?_
  rotate_left
  · intro w'
    go_simp
    with_reducible rfl
  rotate_left
  · simp only [Act.put, List.setIfInBounds_toArray, List.set_cons_zero, List.set_cons_succ, i64_w, i32_w]
    rfl
  refine pure_ (i := 6) (N := some 32) (v := ?_) (a' := ?_) #[true, true, true, true, true, true, true, false, false, false, false, false, false, false] rfl rfl (by kernel_rfl) (fun _ _ _ h => h) (Or.inl ⟨by rfl, ?_⟩) ?_ ?_
  rotate_left
  · intro w'
    go_simp
    with_reducible rfl
  rotate_left
  · simp only [Act.put, List.setIfInBounds_toArray, List.set_cons_zero, List.set_cons_succ, i64_w, i32_w]
    rfl
  refine pure_ (i := 7) (N := some 33) (v := ?_) (a' := ?_) #[true, true, true, true, true, true, true, true, false, false, false, false, false, false] rfl rfl (by kernel_rfl) (fun _ _ _ h => h) (Or.inl ⟨by rfl, ?_⟩) ?_ ?_
  rotate_left
  · intro w'
    go_simp
    with_reducible rfl
  rotate_left
  · simp only [Act.put, List.setIfInBounds_toArray, List.set_cons_zero, List.set_cons_succ, i64_w, i32_w]
    rfl
  refine pure_ (i := 8) (N := some 34) (v := ?_) (a' := ?_) #[true, true, true, true, true, true, true, true, true, false, false, false, false, false] rfl rfl (by kernel_rfl) (fun _ _ _ h => h) (Or.inl ⟨by rfl, ?_⟩) ?_ ?_
  rotate_left
  · intro w'
    go_simp
    with_reducible rfl
  rotate_left
  · simp only [Act.put, List.setIfInBounds_toArray, List.set_cons_zero, List.set_cons_succ, i64_w, i32_w]
    rfl
  refine take_ (i := 9) (N := some 35) (v := ?_) (a' := ?_) #[true, true, true, true, true, true, true, true, true, true, false, false, false, false] rfl rfl (by kernel_rfl) (fun _ _ _ h => h) (Or.inl ⟨by rfl, ?_⟩) hHeld ?_ ?_
  rotate_left
  · rintro w' ⟨s0, s1, s2, s3, s4, s5, s6⟩
    go_simp
    with_reducible rfl
  rotate_left
  · simp only [Act.put, List.setIfInBounds_toArray, List.set_cons_zero, List.set_cons_succ, i64_w, i32_w]
    rfl
  refine take_ (i := 10) (N := some 36) (v := ?_) (a' := ?_) #[true, true, true, true, true, true, true, true, true, true, true, false, false, false] rfl rfl (by kernel_rfl) (fun _ _ _ h => h) (Or.inl ⟨by rfl, ?_⟩) hHeld ?_ ?_
  rotate_left
  · rintro w' ⟨s0, s1, s2, s3, s4, s5, s6⟩
    go_simp
    with_reducible rfl
  rotate_left
  · simp only [Act.put, List.setIfInBounds_toArray, List.set_cons_zero, List.set_cons_succ, i64_w, i32_w]
    rfl
  refine one_ (i := 11) (N := some 37) #[true, true, true, true, true, true, true, true, true, true, true, true, false, false] rfl rfl (by kernel_rfl) (by decide) (fun K hK => ?_)
  refine goes_ Try.func29 (by kernel_rfl) rfl #[.agg #[.string k0s, .int .u64 k0n, .int .i64 k0d], .agg #[.string ks, .int .u64 kn, .int .i64 kd]] (by rfl) rfl rfl (by simp only [List.map_toArray, List.map_cons, List.map_nil]; rfl) ?_
  with_reducible refine (ikey_Compare.calls 8 k0s k0n k0d ks kn kd cv _ HCMP.out).mono ?_
  rintro e w3 ⟨rfl, hb⟩
  refine ⟨_, rfl, ?_⟩
  have HD3 := Aside0.mk (show Below w2.heap.size w2 w3 from below_step (below_drew1 (Below.refl _ _)) hb)
  clear hb
  refine hK.out _ _ ⟨pw_cell_below HD3.out p2, pw_cell_below HD3.out p3, pw_cell_below HD3.out p4, pw_cell_below HD3.out p5, pw_cell_below HD3.out p40, pw_cell_below HD3.out p41, pw_cell_below HD3.out p42⟩ (fun hHeld => ?_)
  clear hK K
  refine norm_ (a' := ?_) ?_ ?_
  rotate_left
  · show Act.put _ (some 37) _ = _
    simp only [Act.put, List.setIfInBounds_toArray, List.set_cons_zero, List.set_cons_succ, i64_w, i32_w]
    rfl
  refine pure_ (i := 12) (N := some 38) (v := ?_) (a' := ?_) #[true, true, true, true, true, true, true, true, true, true, true, true, true, false] rfl rfl (by kernel_rfl) (fun _ _ _ h => h) (Or.inl ⟨by rfl, ?_⟩) ?_ ?_
  rotate_left
  · intro w'
    go_simp
    with_reducible rfl
  rotate_left
  · simp only [Act.put, List.setIfInBounds_toArray, List.set_cons_zero, List.set_cons_succ, i64_w, i32_w]
    rfl
  refine pure_ (i := 13) (N := some 39) (v := ?_) (a' := ?_) #[true, true, true, true, true, true, true, true, true, true, true, true, true, true] rfl rfl (by kernel_rfl) (fun _ _ _ h => h) (Or.inl ⟨by rfl, ?_⟩) ?_ ?_
  rotate_left
  · intro w'
    go_simp
    with_reducible rfl
  rotate_left
  · simp only [Act.put, List.setIfInBounds_toArray, List.set_cons_zero, List.set_cons_succ, i64_w, i32_w]
    rfl
  refine done_ (by kernel_rfl) ?_
  go_wp2
  go_ret
  exact ⟨rfl, below_step HB2.out HD3.out⟩
set_option maxHeartbeats 4000000 in
set_option maxRecDepth 100000 in
theorem clone_u8 (base : Nat) (v : Value) (l0 : List Int) (w : World) (hr0 : Kd.R (Kd.int .u8) 5 w base (fun _ => True) v l0) (hl : l0.length ≤ 1099511627776) :
    Calls Try.prog 35 #[v] w fun e w' => ∃ v', e = .returned v' ∧ Kd.R (Kd.int .u8) 5 w' w.heap.size (fun _ => True) v' l0 ∧ Below w.heap.size w w' := by
  obtain ⟨A0, c0, rfl, hc0, hC0⟩ := Kd.R_reads hr0
  cases A0 with
  | none =>
    have h0 : l0.length = 0 ∧ c0 = 0 := by
      rcases hr0 with ⟨_, inner, ho, _⟩
      rcases ho.2 with ⟨e, h⟩ | ⟨g, cap, cur, e, _⟩
      · injection e with _ e2 e3; exact ⟨h, e3⟩
      · injection e with e1 _ _; cases e1
    obtain ⟨h1, rfl⟩ := h0
    have hl0 : l0 = [] := List.length_eq_zero_iff.1 h1
    subst hl0
    have HB := Aside0.mk (Below.refl w.heap.size w)
    have hcmp : ∀ (X : World), (binOp .eql 23 (.slice none 0 0) (.slice none 0 0)).run Try.prog X = .ok (.bool true) X := by
      intro X
      first | rfl | (simp [binOp, go_sem]; done) | (unfold binOp; simp [go_sem, Try.underlying23]; done)
    clear hr0 hC0 hc0 hl h1
    rw [show ([] : List Int).length = 0 from rfl]
    go_enter Try.func35, Try.ntmps35
    go_wp2
    go_ret
    exact ⟨_, rfl, Kd.R_nil _ _ _ _ _, HB.out⟩
  | some ad =>
    have hg : ad = ⟨ad.block, 0, none⟩ := by
      rcases hr0 with ⟨_, inner, ho, _⟩
      rcases ho.2 with ⟨e, h⟩ | ⟨g, cap, cur, e, _⟩
      · injection e with e1 _ _; cases e1
      · injection e with e1 _ _; cases e1; rfl
    obtain ⟨g, hgb⟩ : ∃ g, ad.block = g := ⟨_, rfl⟩
    rw [hgb] at hg
    subst hg
    have HR := Aside0.mk hC0
    have HL := Aside0.mk hl
    obtain ⟨n0, hn0⟩ : ∃ n, l0.length = n := ⟨_, rfl⟩
    have HN0 := Aside0.mk hn0
    have hinfo : (Try.prog.info? 5).map (fun i => (i.zero, i.size, i.bytes)) = some (some (.int .u8 0), 1, 1) := by kernel_rfl
    have HI := Aside0.mk hinfo
    clear hr0 hl hC0 hc0 hinfo hgb
    have hcmp : ∀ (n c : Nat) (X : World), (binOp .eql 23 (.slice (some ⟨g, 0, none⟩) n c) (.slice none 0 0)).run Try.prog X = .ok (.bool false) X := by
      intro n c X
      first | rfl | (simp [binOp, go_sem]; done) | (unfold binOp; simp [go_sem, Try.underlying23]; done)
    rw [hn0]
    clear hn0
    go_enter Try.func35, Try.ntmps35
    go_wp2_with (first | ((with_reducible refine gate_dst (N := 5) rfl ?_); refine Kd.R_lit (Kd.int .u8) _ 5 ?hg (N := 5) ?hd (xs := ([] : List Int)) (inner := []) (ok := fun _ => True) (okp := fun _ => True) ?hr ?hp (fun _ hk => hk) trivial (Below.refl _ _) (Nat.le_refl _) (by simp) ?_; (case hd => rfl); (case hg => rfl); (case hr => first | (go_simp; done) | (go_simp; rfl)); (case hp => exact (Reps.none _ _)); intro v102 w6 ho7 hb hg_ hnew_; clear hg_ hnew_; have HO1 := Aside0.mk ho7; have HB1 := Aside0.mk hb; clear hb ho7) | ((with_reducible refine gate_builtin (b := .append) (xs := #[.tmp 5, .tmp 6]) rfl ?_); at_builtin; refine Kd.R_append_rows (Kd.int .u8) (w0 := w) w.heap.size rfl (.tmp 5) (.tmp 6) 23 5 (.int .u8 0) 1 rfl Try.underlying23 HI.out rfl (by decide) (by omega) v102 [] l0 _ _ _ (fun _ => True) (fun _ => False) rfl rfl ?aO ?aR (fun _ _ h => h) (fun _ h => h.elim) (fun _ _ => trivial) ?aB ?aS ?aL ?_; (case aR => exact (by rw [← HN0.out]; exact Kd.C_below HR.out HB1.out)); (case aB => exact HB1.out); (case aO => exact HO1.out); (case aS => exact HB1.out.size); (case aL => have := HL.out; have := HN0.out; simp; omega); intro v105 w8 ho hb hg hat; have HO2 := Aside0.mk ho; have HB2 := Aside0.mk hb; clear ho hb hg hat))
    go_ret
    exact ⟨_, rfl, HO2.out, HB2.out⟩
set_option maxHeartbeats 4000000 in
set_option maxRecDepth 100000 in
theorem clone_i64 (base : Nat) (v : Value) (l0 : List Int) (w : World) (hr0 : Kd.R (Kd.int .i64) 3 w base (fun _ => True) v l0) (hl : l0.length ≤ 1099511627776) :
    Calls Try.prog 36 #[v] w fun e w' => ∃ v', e = .returned v' ∧ Kd.R (Kd.int .i64) 3 w' w.heap.size (fun _ => True) v' l0 ∧ Below w.heap.size w w' := by
  obtain ⟨A0, c0, rfl, hc0, hC0⟩ := Kd.R_reads hr0
  cases A0 with
  | none =>
    have h0 : l0.length = 0 ∧ c0 = 0 := by
      rcases hr0 with ⟨_, inner, ho, _⟩
      rcases ho.2 with ⟨e, h⟩ | ⟨g, cap, cur, e, _⟩
      · injection e with _ e2 e3; exact ⟨h, e3⟩
      · injection e with e1 _ _; cases e1
    obtain ⟨h1, rfl⟩ := h0
    have hl0 : l0 = [] := List.length_eq_zero_iff.1 h1
    subst hl0
    have HB := Aside0.mk (Below.refl w.heap.size w)
    have hcmp : ∀ (X : World), (binOp .eql 43 (.slice none 0 0) (.slice none 0 0)).run Try.prog X = .ok (.bool true) X := by
      intro X
      first | rfl | (simp [binOp, go_sem]; done) | (unfold binOp; simp [go_sem, Try.underlying43]; done)
    clear hr0 hC0 hc0 hl h1
    rw [show ([] : List Int).length = 0 from rfl]
    go_enter Try.func36, Try.ntmps36
    go_wp2
    go_ret
    exact ⟨_, rfl, Kd.R_nil _ _ _ _ _, HB.out⟩
  | some ad =>
    have hg : ad = ⟨ad.block, 0, none⟩ := by
      rcases hr0 with ⟨_, inner, ho, _⟩
      rcases ho.2 with ⟨e, h⟩ | ⟨g, cap, cur, e, _⟩
      · injection e with e1 _ _; cases e1
      · injection e with e1 _ _; cases e1; rfl
    obtain ⟨g, hgb⟩ : ∃ g, ad.block = g := ⟨_, rfl⟩
    rw [hgb] at hg
    subst hg
    have HR := Aside0.mk hC0
    have HL := Aside0.mk hl
    obtain ⟨n0, hn0⟩ : ∃ n, l0.length = n := ⟨_, rfl⟩
    have HN0 := Aside0.mk hn0
    have hinfo : (Try.prog.info? 3).map (fun i => (i.zero, i.size, i.bytes)) = some (some (.int .i64 0), 1, 8) := by kernel_rfl
    have HI := Aside0.mk hinfo
    clear hr0 hl hC0 hc0 hinfo hgb
    have hcmp : ∀ (n c : Nat) (X : World), (binOp .eql 43 (.slice (some ⟨g, 0, none⟩) n c) (.slice none 0 0)).run Try.prog X = .ok (.bool false) X := by
      intro n c X
      first | rfl | (simp [binOp, go_sem]; done) | (unfold binOp; simp [go_sem, Try.underlying43]; done)
    rw [hn0]
    clear hn0
    go_enter Try.func36, Try.ntmps36
    go_wp2_with (first | ((with_reducible refine gate_dst (N := 5) rfl ?_); refine Kd.R_lit (Kd.int .i64) _ 3 ?hg (N := 5) ?hd (xs := ([] : List Int)) (inner := []) (ok := fun _ => True) (okp := fun _ => True) ?hr ?hp (fun _ hk => hk) trivial (Below.refl _ _) (Nat.le_refl _) (by simp) ?_; (case hd => rfl); (case hg => rfl); (case hr => first | (go_simp; done) | (go_simp; rfl)); (case hp => exact (Reps.none _ _)); intro v102 w6 ho7 hb hg_ hnew_; clear hg_ hnew_; have HO1 := Aside0.mk ho7; have HB1 := Aside0.mk hb; clear hb ho7) | ((with_reducible refine gate_builtin (b := .append) (xs := #[.tmp 5, .tmp 6]) rfl ?_); at_builtin; refine Kd.R_append_rows (Kd.int .i64) (w0 := w) w.heap.size rfl (.tmp 5) (.tmp 6) 43 3 (.int .i64 0) 8 rfl Try.underlying43 HI.out rfl (by decide) (by omega) v102 [] l0 _ _ _ (fun _ => True) (fun _ => False) rfl rfl ?aO ?aR (fun _ _ h => h) (fun _ h => h.elim) (fun _ _ => trivial) ?aB ?aS ?aL ?_; (case aR => exact (by rw [← HN0.out]; exact Kd.C_below HR.out HB1.out)); (case aB => exact HB1.out); (case aO => exact HO1.out); (case aS => exact HB1.out.size); (case aL => have := HL.out; have := HN0.out; simp; omega); intro v105 w8 ho hb hg hat; have HO2 := Aside0.mk ho; have HB2 := Aside0.mk hb; clear ho hb hg hat))
    go_ret
    exact ⟨_, rfl, HO2.out, HB2.out⟩

end Go.Proofs.Ytbhifenkfoddgaa.G

/- Contracts typed by hand: a block's Builder: its bytes -/
namespace Go.Proofs.Ytbhifenkfoddgaa.G
open Go.RowKit Go.Proofs.YtbhifenkfoddgaaW.PrintWords Go.Proofs.YtbhifenkfoddgaaW.PrintLast Go.Proofs.YtbhifenkfoddgaaW.PrintMore
attribute [local go_sem] max2_int min2_int max_two min_two max_three min_three max_four min_four
set_option linter.unusedVariables false
set_option linter.unusedSimpArgs false

/-! a block's Builder: its bytes -/
/-- the places, laid -/
def placesB (l : List Int) : List Int := l.flatMap fun p => fixF 4 (IntKind.u32.wrap p)
/-- a Builder's bytes -/
def bytesB (bytes places : List Int) : List Int := bytes ++ placesB (places ++ [(places.length : Int)])
theorem placesB_len : ∀ l : List Int, (placesB l).length = 4 * l.length
  | [] => rfl
  | x :: l => by
    unfold placesB
    rw [List.flatMap_cons, List.length_append, fixF_len]
    have := placesB_len l
    unfold placesB at this
    rw [this, List.length_cons]
    omega
theorem placesB_snoc (l : List Int) (x : Int) : placesB (l ++ [x]) = placesB l ++ fixF 4 (IntKind.u32.wrap x) := by simp [placesB]
theorem rdOf_at (d : Int) (l : List Int) (i : Nat) (h : i < l.length) : rdOf d l (i : Int) = l[i] := by unfold rdOf; simp [h]
set_option maxHeartbeats 16000000 in
set_option maxRecDepth 100000 in
theorem bu_bytes (w : World) (g base : Nat) (r s n : Int) (k : IK) (vk : Value) (Ab : Option Addr) (nb cb : Nat) (Ap : Option Addr) (np cp : Nat) (key bytes places : List Int)
    (h : BuAt w g base r s n k vk (.slice Ab nb cb) (.slice Ap np cp) key bytes places) (hr : 1 ≤ r) (hbl : bytes.length ≤ 1099511627776) (hpl : places.length ≤ 1099511627776) :
    Calls Try.prog 13 #[.pointer (some ⟨g, 0, none⟩)] w fun e w' => ∃ A m c, e = .returned (.slice A m c) ∧ Kd.R (Kd.int .u8) 5 w' w.heap.size (fun _ => True) (.slice A m c) (bytesB bytes places) ∧ Below w.heap.size w w' := by
  have HBU := Aside0.mk h
  have HNN := Aside0.mk (bu_none g r (by omega) w ((blk_cell h.cell 0).trans rfl))
  have p7 : w.cell? ⟨g, 7, none⟩ = some (.slice Ab nb cb) := (blk_cell h.cell 7).trans rfl
  have hNp : np = places.length := (Kd.R_reads' h.places).1
  have HNP := Aside0.mk hNp
  have HBL := Aside0.mk hbl
  have HPL := Aside0.mk hpl
  have HCB := Aside0.mk (clone_u8 base (.slice Ab nb cb) bytes w h.bytes hbl)
  clear h hr hNp hbl hpl
  go_enter Try.func13, Try.ntmps13
  go_wp2_with fail
  (with_reducible refine HNN.out.mono ?_)
  rintro e w1 ⟨rfl, rfl⟩
  go_wp2_with fail
  (with_reducible refine HCB.out.mono ?_)
  rintro e w2 ⟨v1, rfl, hr1, hb⟩
  obtain ⟨A1, c1, rfl, _, _⟩ := Kd.R_reads hr1
  obtain ⟨n1, hn1⟩ : ∃ x, bytes.length = x := ⟨_, rfl⟩
  rw [hn1] at hr1 ⊢
  have HN1 := Aside0.mk hn1
  have HR1 := Aside0.mk hr1
  have HB2 := Aside0.mk hb
  have HBU2 := Aside0.mk (HBU.out.below hb)
  have HCP := Aside0.mk (show ∀ W, Below w2.heap.size w2 W → Calls Try.prog 36 #[.slice Ap np cp] W fun e w' => ∃ A c, e = .returned (.slice A np c) ∧ Kd.R (Kd.int .i64) 3 w' W.heap.size (fun _ => True) (.slice A np c) places ∧ Below W.heap.size W w' from fun W hb => by
    refine (clone_i64 base (.slice Ap np cp) places W (Kd.R_below HBU2.out.places hb) HPL.out).mono ?_
    rintro e w' ⟨v, rfl, hr, hb⟩
    obtain ⟨A, c, rfl, _, _⟩ := Kd.R_reads hr
    rw [← HNP.out] at hr ⊢
    exact ⟨A, c, rfl, hr, hb⟩)
  have p8 : w2.cell? ⟨g, 8, none⟩ = some (.slice Ap np cp) := (blk_cell HBU2.out.cell 8).trans rfl
  have HI := Aside0.mk (show (Try.prog.info? 3).map (fun i => (i.zero, i.size, i.bytes)) = some (some (.int .i64 0), 1, 8) from by kernel_rfl)
  clear hr1 hb hn1 p7 HNN HCB
  go_wp2_with fail
  refine start_ (n := 14) (S := fun w' => w'.cell? ⟨g, 8, none⟩ = some (.slice Ap np cp)) (ds := []) #[false, false, false, false, false, false, false, false, false, false, false, false, false, false] (by kernel_rfl) rfl rfl (p8) (fun hHeld => ?_)
  refine pure_ (i := 0) (N := some 13) (v := ?_) (a' := ?_) #[true, false, false, false, false, false, false, false, false, false, false, false, false, false] rfl rfl (by kernel_rfl) (fun _ _ _ h => h) (Or.inl ⟨by rfl, ?_⟩) ?_ ?_
  rotate_left
  · intro w'
    go_simp
    with_reducible rfl
  rotate_left
  · simp only [Act.put, List.setIfInBounds_toArray, List.set_cons_zero, List.set_cons_succ, i64_w, i32_w]
    rfl
  refine pure_ (i := 1) (N := some 14) (v := ?_) (a' := ?_) #[true, true, false, false, false, false, false, false, false, false, false, false, false, false] rfl rfl (by kernel_rfl) (fun _ _ _ h => h) (Or.inl ⟨by rfl, ?_⟩) ?_ ?_
  rotate_left
  · intro w'
    go_simp
    with_reducible rfl
  rotate_left
  · simp only [Act.put, List.setIfInBounds_toArray, List.set_cons_zero, List.set_cons_succ, i64_w, i32_w]
    rfl
  refine pure_ (i := 2) (N := some 15) (v := ?_) (a' := ?_) #[true, true, true, false, false, false, false, false, false, false, false, false, false, false] rfl rfl (by kernel_rfl) (fun _ _ _ h => h) (Or.inl ⟨by rfl, ?_⟩) ?_ ?_
  rotate_left
  · intro w'
    go_simp
    with_reducible rfl
  rotate_left
  · simp only [Act.put, List.setIfInBounds_toArray, List.set_cons_zero, List.set_cons_succ, i64_w, i32_w]
    rfl
  refine pure_ (i := 5) (N := some 18) (v := ?_) (a' := ?_) #[true, true, true, false, false, true, false, false, false, false, false, false, false, false] rfl rfl (by kernel_rfl) (fun _ _ _ h => h) (Or.inl ⟨by rfl, ?_⟩) ?_ ?_
  rotate_left
  · intro w'
    go_simp
    with_reducible rfl
  rotate_left
  · simp only [Act.put, List.setIfInBounds_toArray, List.set_cons_zero, List.set_cons_succ, i64_w, i32_w]
    rfl
  refine pure_ (i := 6) (N := some 19) (v := ?_) (a' := ?_) #[true, true, true, false, false, true, true, false, false, false, false, false, false, false] rfl rfl (by kernel_rfl) (fun _ _ _ h => h) (Or.inl ⟨by rfl, ?_⟩) ?_ ?_
  rotate_left
  · intro w'
    go_simp
    with_reducible rfl
  rotate_left
  · simp only [Act.put, List.setIfInBounds_toArray, List.set_cons_zero, List.set_cons_succ, i64_w, i32_w]
    rfl
  refine pure_ (i := 7) (N := some 20) (v := ?_) (a' := ?_) #[true, true, true, false, false, true, true, true, false, false, false, false, false, false] rfl rfl (by kernel_rfl) (fun _ _ _ h => h) (Or.inl ⟨by rfl, ?_⟩) ?_ ?_
  rotate_left
  · intro w'
    go_simp
    with_reducible rfl
  rotate_left
  · simp only [Act.put, List.setIfInBounds_toArray, List.set_cons_zero, List.set_cons_succ, i64_w, i32_w]
    rfl
  refine pure_ (i := 13) (N := some 26) (v := ?_) (a' := ?_) #[true, true, true, false, false, true, true, true, false, false, false, false, false, true] rfl rfl (by kernel_rfl) (fun _ _ _ h => h) (Or.inl ⟨by rfl, ?_⟩) ?_ ?_
  rotate_left
  · intro w'
    go_simp
    with_reducible rfl
  rotate_left
  · simp only [Act.put, List.setIfInBounds_toArray, List.set_cons_zero, List.set_cons_succ, i64_w, i32_w]
    rfl
  refine take_ (i := 3) (N := some 16) (v := ?_) (a' := ?_) #[true, true, true, true, false, true, true, true, false, false, false, false, false, true] rfl rfl (by kernel_rfl) (fun _ _ _ h => h) (Or.inl ⟨by rfl, ?_⟩) hHeld ?_ ?_
  rotate_left
  · intro w' s0
    go_simp
    with_reducible rfl
  rotate_left
  · simp only [Act.put, List.setIfInBounds_toArray, List.set_cons_zero, List.set_cons_succ, i64_w, i32_w]
    rfl
  refine take_ (i := 8) (N := some 21) (v := ?_) (a' := ?_) #[true, true, true, true, false, true, true, true, true, false, false, false, false, true] rfl rfl (by kernel_rfl) (fun _ _ _ h => h) (Or.inl ⟨by rfl, ?_⟩) hHeld ?_ ?_
  rotate_left
  · intro w' s0
    go_simp
    with_reducible rfl
  rotate_left
  · simp only [Act.put, List.setIfInBounds_toArray, List.set_cons_zero, List.set_cons_succ, i64_w, i32_w]
    rfl
  refine pure_ (i := 9) (N := some 22) (v := ?_) (a' := ?_) #[true, true, true, true, false, true, true, true, true, true, false, false, false, true] rfl rfl (by kernel_rfl) (fun _ _ _ h => h) (Or.inl ⟨by rfl, ?_⟩) ?_ ?_
  rotate_left
  · intro w'
    go_simp
    with_reducible rfl
  rotate_left
  · simp only [Act.put, List.setIfInBounds_toArray, List.set_cons_zero, List.set_cons_succ, i64_w, i32_w]
    rfl
  refine join_ (σ := Option Addr × Nat × Nat × Nat) 2 #[true, true, true, true, true, true, true, true, true, true, true, false, false, true] (fun s_ => [(17, .slice s_.1 np s_.2.1), (23, .slice (some ⟨s_.2.2.1, 0, none⟩) 1 s_.2.2.2)]) (fun s_ w' => (w'.cell? ⟨g, 8, none⟩ = some (.slice Ap np cp)) ∧ Kd.R (Kd.int .i64) 3 w' w2.heap.size (fun _ => True) (.slice s_.1 np s_.2.1) places ∧ Kd.R (Kd.int .i64) 3 w' w2.heap.size (fun _ => True) (.slice (some ⟨s_.2.2.1, 0, none⟩) 1 s_.2.2.2) [(np : Int)] ∧ Below w2.heap.size w2 w') ?_ ?_
  rotate_left
  · intro hCont
    refine two_ (i := 4) (j := 10) (Ni := some 17) (Nj := some 23) #[true, true, true, true, true, true, true, true, true, true, false, false, false, true] #[true, true, true, true, false, true, true, true, true, true, true, false, false, true] rfl rfl rfl rfl (by kernel_rfl) (by decide) (by decide) (fun K hK => ?_) (fun K hK => ?_)
    · skip
      refine goes_ Try.func36 (by kernel_rfl) rfl #[.slice Ap np cp] (by rfl) rfl rfl (by simp only [List.map_toArray, List.map_cons, List.map_nil]; rfl) ?_
      with_reducible refine (HCP.out _ (below_drew1 (Below.refl _ _))).mono ?_
      rintro e wa ⟨AG, cG, rfl, hr, hb⟩
      refine ⟨_, rfl, ?_⟩
      have HBA := Aside0.mk (show Below w2.heap.size w2 wa from below_step (below_drew1 (Below.refl _ _)) hb)
      have HRG := Aside0.mk (Kd.R_lower hr (below_size (below_drew1 (Below.refl _ _))))
      clear hr hb
      refine hK.out _ _ (pw_cell_below HBA.out p8) (fun hHeld => ?_)
      clear hK K
      refine norm_ (a' := ?_) ?_ ?_
      rotate_left
      · show Act.put _ (some 17) _ = _
        simp only [Act.put, List.setIfInBounds_toArray, List.set_cons_zero, List.set_cons_succ, i64_w, i32_w]
        rfl
      refine one_ (i := 10) (N := some 23) #[true, true, true, true, true, true, true, true, true, true, true, false, false, true] rfl rfl (by kernel_rfl) (by decide) (fun K hK => ?_)
      refine Kd.R_lit_step (Kd.int .i64) (w0 := w2) w2.heap.size 3 ?hg (N := 23) ?hd (xs := [(np : Int)]) (inner := [.int .i64 (np : Int)]) (ok := fun _ => True) (okp := fun _ => True) ?hr ?hp (fun _ hk => hk) trivial ?hB ?hS (by simp) ?_
      (case hd => rfl)
      (case hg => rfl)
      (case hr => first | (go_simp; done) | (go_simp; rfl))
      (case hp => exact Reps.one rfl (Reps.none _ _))
      (case hB => exact HBA.out)
      (case hS => exact below_size HBA.out)
      intro vl wz hl_ hb hg_ _
      obtain ⟨bl, cl, rfl, _, _, _⟩ := Kd.R_form hl_ (by simp)
      rw [show [(np : Int)].length = 1 from rfl] at hl_ ⊢
      have HRL := Aside0.mk hl_
      have HBZ := Aside0.mk hb
      have HRG := Aside0.mk (Kd.R_below HRG.out ((Below.refl _ _).grown hg_ (Nat.le_refl _) (fun k e => by cases e)))
      clear hl_ hb hg_
      refine hK.out _ _ (pw_cell_below HBZ.out p8) (fun hHeld => ?_)
      clear hK K
      refine norm_ (a' := ?_) ?_ ?_
      rotate_left
      · show Act.put _ (some 23) _ = _
        simp only [Act.put, List.setIfInBounds_toArray, List.set_cons_zero, List.set_cons_succ, i64_w, i32_w]
        rfl
      exact norm_ (by simp only [putAll, Act.put, List.setIfInBounds_toArray, List.set_cons_zero, List.set_cons_succ]) (hCont (AG, cG, bl, cl) _ ⟨hHeld, HRG.out, HRL.out, HBZ.out⟩)
    · skip
      refine Kd.R_lit_step (Kd.int .i64) (w0 := w2) w2.heap.size 3 ?hg (N := 23) ?hd (xs := [(np : Int)]) (inner := [.int .i64 (np : Int)]) (ok := fun _ => True) (okp := fun _ => True) ?hr ?hp (fun _ hk => hk) trivial ?hB ?hS (by simp) ?_
      (case hd => rfl)
      (case hg => rfl)
      (case hr => first | (go_simp; done) | (go_simp; rfl))
      (case hp => exact Reps.one rfl (Reps.none _ _))
      (case hB => exact (below_drew1 (Below.refl _ _)))
      (case hS => exact below_size (below_drew1 (Below.refl _ _)))
      intro vl wz hl_ hb hg_ _
      obtain ⟨bl, cl, rfl, _, _, _⟩ := Kd.R_form hl_ (by simp)
      rw [show [(np : Int)].length = 1 from rfl] at hl_ ⊢
      have HRL := Aside0.mk hl_
      have HBZ := Aside0.mk hb
      clear hl_ hb hg_
      refine hK.out _ _ (pw_cell_below HBZ.out p8) (fun hHeld => ?_)
      clear hK K
      refine norm_ (a' := ?_) ?_ ?_
      rotate_left
      · show Act.put _ (some 23) _ = _
        simp only [Act.put, List.setIfInBounds_toArray, List.set_cons_zero, List.set_cons_succ, i64_w, i32_w]
        rfl
      refine one_ (i := 4) (N := some 17) #[true, true, true, true, true, true, true, true, true, true, true, false, false, true] rfl rfl (by kernel_rfl) (by decide) (fun K hK => ?_)
      refine goes_ Try.func36 (by kernel_rfl) rfl #[.slice Ap np cp] (by rfl) rfl rfl (by simp only [List.map_toArray, List.map_cons, List.map_nil]; rfl) ?_
      with_reducible refine (HCP.out _ HBZ.out).mono ?_
      rintro e wa ⟨AG, cG, rfl, hr, hb⟩
      refine ⟨_, rfl, ?_⟩
      have HBA := Aside0.mk (show Below w2.heap.size w2 wa from below_step HBZ.out hb)
      have HRG := Aside0.mk (Kd.R_lower hr (below_size HBZ.out))
      have HRL := Aside0.mk (Kd.R_below HRL.out hb)
      clear hr hb
      refine hK.out _ _ (pw_cell_below HBA.out p8) (fun hHeld => ?_)
      clear hK K
      refine norm_ (a' := ?_) ?_ ?_
      rotate_left
      · show Act.put _ (some 17) _ = _
        simp only [Act.put, List.setIfInBounds_toArray, List.set_cons_zero, List.set_cons_succ, i64_w, i32_w]
        rfl
      exact norm_ (by simp only [putAll, Act.put, List.setIfInBounds_toArray, List.set_cons_zero, List.set_cons_succ]) (hCont (AG, cG, bl, cl) _ ⟨hHeld, HRG.out, HRL.out, HBA.out⟩)
  rintro ⟨AG, cG, bl, cl⟩ wf ⟨hS_, h1_, h2_, h3_⟩
  have HRG := Aside0.mk (show Kd.R (Kd.int .i64) 3 wf w2.heap.size (fun _ => True) (.slice AG np cG) places from h1_)
  have HCL := Aside0.mk (show Kd.C (Kd.int .i64) wf (some ⟨bl, 0, none⟩) 1 [(np : Int)] from (Kd.R_reads' h2_).2.2)
  have HBF := Aside0.mk h3_
  clear h1_ h2_ h3_
  have hHeld := hS_
  refine norm_ (a' := ?_) ?_ ?_
  rotate_left
  · simp only [putAll, Act.put, List.setIfInBounds_toArray, List.set_cons_zero, List.set_cons_succ]
    rfl
  refine one_ (i := 11) (N := some 24) #[true, true, true, true, true, true, true, true, true, true, true, true, false, true] rfl rfl (by kernel_rfl) (by decide) (fun K hK => ?_)
  refine Kd.R_append_rows_step (Kd.int .i64) (w0 := w2) (W := wf) w2.heap.size (by rfl) (.tmp 17) (.tmp 23) 43 3 (.int .i64 0) 8 rfl Try.underlying43 HI.out rfl (by decide) (by decide) (.slice AG np cG) places [(np : Int)] (some ⟨bl, 0, none⟩) 1 cl (fun _ => True) (fun _ => False) rfl rfl HRG.out HCL.out (fun _ _ h => h) (fun _ h => h.elim) (fun _ _ => trivial) HBF.out (below_size HBF.out) (by have := HPL.out; omega) ?_
  intro v3 w3 ho hb hg hat
  obtain ⟨b3, c3, rfl, _, _, _⟩ := Kd.R_form ho (by simp)
  obtain ⟨n3, hn3⟩ : ∃ x, (places ++ [(np : Int)]).length = x := ⟨_, rfl⟩
  rw [hn3] at ho ⊢
  have HR3 := Aside0.mk ho
  have HN3 := Aside0.mk hn3
  have HB3 := Aside0.mk hb
  clear ho hb hg hat hn3
  refine hK.out _ _ (pw_cell_below HB3.out p8) (fun hHeld => ?_)
  clear hK K
  refine norm_ (a' := ?_) ?_ ?_
  rotate_left
  · show Act.put _ (some 24) _ = _
    simp only [Act.put, List.setIfInBounds_toArray, List.set_cons_zero, List.set_cons_succ, i64_w, i32_w]
    rfl
  refine pure_ (i := 12) (N := some 25) (v := ?_) (a' := ?_) #[true, true, true, true, true, true, true, true, true, true, true, true, true, true] rfl rfl (by kernel_rfl) (fun _ _ _ h => h) (Or.inl ⟨by rfl, ?_⟩) ?_ ?_
  rotate_left
  · intro w'
    go_simp
    with_reducible rfl
  rotate_left
  · simp only [Act.put, List.setIfInBounds_toArray, List.set_cons_zero, List.set_cons_succ, i64_w, i32_w]
    rfl
  refine done_ (by kernel_rfl) ?_
  have HR1b := Aside0.mk (Kd.R_lower (Kd.R_below HR1.out HB3.out) (Nat.le_refl _))
  have HN3b := Aside0.mk (show n3 ≤ 1099511627777 by rw [← HN3.out, List.length_append]; have := HPL.out; simp; omega)
  have HB3w := Aside0.mk (show Below w.heap.size w w3 from (HB2.out.trans (HB3.out.mono (below_size HB2.out))))
  have HR3w := Aside0.mk (Kd.R_lower HR3.out (below_size HB2.out))
  have HN1b := Aside0.mk (show n1 ≤ 1099511627776 by rw [← HN1.out]; exact HBL.out)
  obtain ⟨pl, hpl⟩ : ∃ l, places ++ [(np : Int)] = l := ⟨_, rfl⟩
  rw [hpl] at HR3w HN3
  have HPP := Aside0.mk hpl
  clear p8 hHeld HR1 HR3 HB3 HRG HCL HBF HCP HI hpl HBU2
  go_wp2_with fail
  go_loopg [3, 26] (2 + n3) (fun kq v3 v26 wr => ∃ (i : Nat) (A : Option Addr) (m c : Nat), v3 = .slice A m c ∧ v26 = .int .i64 (i : Int) ∧ i ≤ n3 ∧ 1 + n3 - i < kq ∧ Aside0 (Kd.R (Kd.int .u8) 5 wr w.heap.size (fun _ => True) (.slice A m c) (bytes ++ placesB (pl.take i))) ∧ Aside0 (Kd.R (Kd.int .i64) 3 wr w.heap.size (fun _ => True) (.slice (some ⟨b3, 0, none⟩) n3 c3) pl) ∧ Aside0 (Below w.heap.size w wr))
  case atStart => exact ⟨0, A1, n1, c1, rfl, rfl, Nat.zero_le _, by omega, ⟨by rw [List.take_zero]; show Kd.R _ _ _ _ _ _ (bytes ++ []); rw [List.append_nil]; exact HR1b.out⟩, HR3w, HB3w⟩
  case round =>
    clear HR1b HR3w HB3w
    obtain ⟨i, A, m, c, rfl, rfl, hin, hkq, HRB, HRP, HB⟩ := hrel
    cases gk with
    | zero => omega
    | succ gk1 =>
    have HN3c := Aside0.mk (show n3 ≤ 1099511627777 from HN3b.out)
    by_cases hi : i < n3
    · have b1 : decide ((i : Int) < (n3 : Int)) = true := decide_eq_true (by omega)
      have b1n : decide (i < n3) = true := decide_eq_true hi
      obtain ⟨hc, hf⟩ := Kd.R_celln (0 : Int) HRP.out (i : Int) (by omega) (by omega)
      have hip : i < pl.length := by rw [HN3.out]; exact hi
      rw [Int.toNat_natCast, rdOf_at 0 pl i hip] at hc
      rw [Int.toNat_natCast] at hf
      have htk : pl.take (i + 1) = pl.take i ++ [pl[i]] := by rw [List.take_add_one, List.getElem?_eq_getElem hip]; rfl
      obtain ⟨x, hx⟩ : ∃ x, pl[i] = x := ⟨_, rfl⟩
      rw [hx] at hc htk
      have HTK := Aside0.mk htk
      have HHI := Aside0.mk hi
      have hx0 : 0 ≤ IntKind.u32.wrap x ∧ IntKind.u32.wrap x < 4294967296 := by rw [Go.IntKind.wrap_u32]; omega
      obtain ⟨y, hy⟩ : ∃ y, IntKind.u32.wrap x = y := ⟨_, rfl⟩
      have hib : (i : Int) ≤ 1099511627777 := by have := HN3b.out; omega
      have HRR := Aside0.mk (Kd.R_reads' HRB.out)
      have hlen : (bytes ++ placesB (pl.take i)).length ≤ 140737488355200 := by rw [List.length_append, placesB_len, List.length_take, HN1.out]; have h1 := HN1b.out; have h2 := HN3b.out; omega
      rw [hy] at hx0
      have HPF := Aside0.mk (codec_PutFixed32.calls 10 A c (bytes ++ placesB (pl.take i)) y (bytes ++ placesB (pl.take i) ++ fixF 4 y) wr HRR.out.2.2 (by have h1 := HRR.out.1; have h2 := HRR.out.2.1; omega) (PutFixed32_eq 10 _ y hx0.1 (by omega) (by omega) hlen))
      rw [← HRR.out.1] at HPF
      have HY := Aside0.mk hy
      have HKQ := Aside0.mk hkq
      clear hip hx htk hx0 HRR hlen hkq
      go_wp2_with fail
      (try rw [hy])
      (with_reducible refine HPF.out.mono ?_)
      rintro e wx ⟨v', rfl, hr', hb'⟩
      obtain ⟨A2, c2, rfl, _, _⟩ := Kd.R_reads hr'
      obtain ⟨n2, hn2⟩ : ∃ z, (bytes ++ placesB (pl.take i) ++ fixF 4 y).length = z := ⟨_, rfl⟩
      rw [hn2] at hr' ⊢
      have HBX := Aside0.mk (show Below w.heap.size w wx from below_step HB.out hb')
      have HRP2 := Aside0.mk (Kd.R_below HRP.out hb')
      have HRB2 := Aside0.mk (show Kd.R (Kd.int .u8) 5 wx w.heap.size (fun _ => True) (.slice A2 n2 c2) (bytes ++ placesB (pl.take (i + 1))) by rw [HTK.out, placesB_snoc, HY.out, ← List.append_assoc]; exact Kd.R_lower hr' (below_size HB.out))
      clear hr' hb' hn2 HPF hc hf hy
      go_wp2
      go_roundg gk1
      case measure => have := HKQ.out; omega
      case rel => exact ⟨i + 1, A2, n2, c2, rfl, by go_num, by have := HHI.out; omega, by have := HKQ.out; have := HHI.out; omega, HRB2, HRP2, HBX⟩
    · obtain rfl : i = n3 := by omega
      have b1 : decide ((i : Int) < (i : Int)) = false := decide_eq_false (by omega)
      have b1n : decide (i < i) = false := decide_eq_false (by omega)
      clear hkq hi
      go_wp2
      go_ret
      refine ⟨_, _, _, rfl, ?_, HB.out⟩
      have h := HRB.out
      rw [List.take_of_length_le (by rw [HN3.out]; exact Nat.le_refl _), ← HPP.out, HNP.out] at h
      exact h

end Go.Proofs.Ytbhifenkfoddgaa.G

/- Contracts typed by hand: a block's Builder: one Add, whatever comes -/
namespace Go.Proofs.Ytbhifenkfoddgaa.G
open Go.RowKit Go.Proofs.YtbhifenkfoddgaaW.PrintWords Go.Proofs.YtbhifenkfoddgaaW.PrintLast Go.Proofs.YtbhifenkfoddgaaW.PrintMore
attribute [local go_sem] max2_int min2_int max_two min_two max_three min_three max_four min_four
set_option linter.unusedVariables false
set_option linter.unusedSimpArgs false

/-! a block's Builder: one Add, whatever comes -/
abbrev It11 := S30
def kI (x : It11) : IK := (x.f0.f0, x.f0.f1, x.f0.f2)
structure B5 where
  s : Int
  n : Int
  key : List Int
  bytes : List Int
  places : List Int
def zB5 : B5 := ⟨0, 0, [], [], []⟩
def stepB (r : Int) (st : B5) (x : It11) : B5 :=
  if st.n = 0 ∨ r = st.s then ⟨1, st.n + 1, keyB (kI x), st.bytes ++ entB 0 (keyB (kI x)) x.f1, st.places ++ [(st.bytes.length : Int)]⟩
  else ⟨st.s + 1, st.n + 1, keyB (kI x), st.bytes ++ entB (sharedN st.key (keyB (kI x))) (keyB (kI x)) x.f1, st.places⟩
def lastK (l : List It11) : IK := (l.getLast?.map kI).getD (⟨#[]⟩, 0, 0)
theorem lastK_snoc (l : List It11) (x : It11) : lastK (l ++ [x]) = kI x := by simp [lastK]
def kcmp (a b : IK) : Int := kc a.1.toList a.2.1 a.2.2 b.1.toList b.2.1 b.2.2
def okI (x : It11) : Bool := validOf x.f0.f0 x.f0.f1 x.f0.f2 && decide (x.f1.size ≤ 65536)
def mayB (has : List It11) (x : It11) : Bool := okI x && (has.isEmpty || decide (kcmp (lastK has) (kI x) < 0))
def takeB (has : List It11) (x : It11) : List It11 := if mayB has x = true then has ++ [x] else has
def hasOf (l : List It11) : List It11 := l.foldl takeB []
def goB (r : Int) (has : List It11) (st : B5) (x : It11) : B5 := if mayB has x = true then stepB r st x else st
structure GoodB (r : Int) (has : List It11) (st : B5) : Prop where
  n : st.n = (has.length : Int)
  s0 : 0 ≤ st.s
  s1 : st.s ≤ st.n
  bl : st.bytes.length ≤ 70000 * has.length
  pl : st.places.length ≤ has.length
  kl : st.key.length ≤ 1032
theorem good_nil (r : Int) : GoodB r [] zB5 := ⟨rfl, Int.le_refl _, Int.le_refl _, Nat.le_refl _, Nat.le_refl _, Nat.zero_le _⟩
theorem keyB_len (k : IK) : (keyB k).length = k.1.size + 8 := by unfold keyB; rw [List.length_append, bytesOf_length, fixF_len]
theorem okI_parts {x : It11} (h : okI x = true) : validOf x.f0.f0 x.f0.f1 x.f0.f2 = true ∧ x.f1.size ≤ 65536 := by
  unfold okI at h
  rw [Bool.and_eq_true, decide_eq_true_eq] at h
  exact h
theorem entB_le (sh : Nat) (kl : List Int) (v : ByteArray) : (entB sh kl v).length ≤ 30 + kl.length + v.size := by
  unfold entB
  simp only [List.length_append, List.length_drop, bytesOf_length]
  have q1 := (enc_len (sh : Int)).2
  have q2 := (enc_len ((kl.length : Int) - (sh : Int))).2
  have q3 := (enc_len (v.size : Int)).2
  omega
theorem good_step {r : Int} {has : List It11} {st : B5} {x : It11} (h : GoodB r has st) (hx : okI x = true) : GoodB r (has ++ [x]) (stepB r st x) := by
  obtain ⟨hv, hz⟩ := okI_parts hx
  have hk : (keyB (kI x)).length ≤ 1032 := by rw [keyB_len]; have := (validOf_parts hv).2.1; show x.f0.f0.size + 8 ≤ 1032; omega
  have h1 := h.n
  have h2 := h.s0
  have h3 := h.s1
  have h4 := h.bl
  have h5 := h.pl
  have hl : (has ++ [x]).length = has.length + 1 := by simp
  unfold stepB
  split
  · have he := entB_le 0 (keyB (kI x)) x.f1
    refine ⟨?_, ?_, ?_, ?_, ?_, hk⟩ <;> dsimp only <;> (try rw [List.length_append]) <;> (try rw [hl]) <;> (try simp only [List.length_cons, List.length_nil]) <;> omega
  · have he := entB_le (sharedN st.key (keyB (kI x))) (keyB (kI x)) x.f1
    refine ⟨?_, ?_, ?_, ?_, ?_, hk⟩ <;> dsimp only <;> (try rw [List.length_append]) <;> (try rw [hl]) <;> (try simp only [List.length_cons, List.length_nil]) <;> omega
/-- what is typed otherwise stays -/
def KeepT (W W' : World) : Prop := ∀ (q : Nat) (cs : Array Value) (T : TypeId), W.heap[q]? = some (.cells cs T (0, 0)) → T ≠ 45 → T ≠ 5 → T ≠ 3 → W'.heap[q]? = W.heap[q]?
theorem keepT_below {W W' : World} (h : Below W.heap.size W W') : KeepT W W' := fun q cs T hq _ _ _ => (blk_below hq h).trans hq.symm
theorem keepT_kept {W W' : World} {g base : Nat} {r s n : Int} {k : IK} {vk vb vp : Value} {key bytes places : List Int} (h : BuAt W g base r s n k vk vb vp key bytes places) (hk : Kept W W' (Own3 g vk vb vp)) : KeepT W W' := by
  intro q cs T hq n1 n2 n3
  refine hk.2 q (blk_lt hq) ?_
  rintro (e | e | e | e)
  · exact typed_ne hq h.cell n1 e
  · obtain ⟨cs2, hc⟩ := R_oblk h.key e
    exact typed_ne hq hc n2 rfl
  · obtain ⟨cs2, hc⟩ := R_oblk h.bytes e
    exact typed_ne hq hc n2 rfl
  · obtain ⟨cs2, hc⟩ := R_oblk h.places e
    exact typed_ne hq hc n3 rfl
/-- a Builder that has taken these items -/
def BuS (W : World) (g base : Nat) (r : Int) (has : List It11) (st : B5) : Prop :=
  (∃ Ak nk ck Ab nb cb Ap np cp, BuAt W g base r st.s st.n (lastK has) (.slice Ak nk ck) (.slice Ab nb cb) (.slice Ap np cp) st.key st.bytes st.places) ∧ GoodB r has st
theorem BuS.below {W W1 : World} {g base : Nat} {r : Int} {has : List It11} {st : B5} (h : BuS W g base r has st) (hb : Below W.heap.size W W1) : BuS W1 g base r has st := by
  obtain ⟨⟨Ak, nk, ck, Ab, nb, cb, Ap, np, cp, h⟩, hg⟩ := h
  exact ⟨⟨Ak, nk, ck, Ab, nb, cb, Ap, np, cp, h.below hb⟩, hg⟩
theorem isEmpty_len {α : Type} (l : List α) : l.isEmpty = decide (l.length = 0) := by cases l <;> simp
theorem R_mv {k : IntKind} {T : TypeId} {W : World} {base : Nat} {v : Value} {l : List Int} (h : Kd.R (Kd.int k) T W base (fun _ => True) v l) : ∃ A n c, v = .slice A n c := by
  obtain ⟨A, c, rfl, _⟩ := Kd.R_reads h
  exact ⟨A, _, c, rfl⟩
theorem add_any (w : World) (g base : Nat) (r : Int) (has : List It11) (st : B5) (h : BuS w g base r has st) (hr : 1 ≤ r) (x : It11) (hkn : 0 ≤ x.f0.f1) (hlen : has.length ≤ 1048576) :
    Calls Try.prog 18 #[.pointer (some ⟨g, 0, none⟩), .agg #[.string x.f0.f0, .int .u64 x.f0.f1, .int .i64 x.f0.f2], .string x.f1] w fun e w' => ∃ code : Int, e = .returned (.int .i64 code) ∧ (code == 0) = mayB has x ∧ BuS w' g base r (takeB has x) (goB r has st x) ∧ Below base w w' ∧ KeepT w w' := by
  have hS := h
  obtain ⟨⟨Ak, nk, ck, Ab, nb, cb, Ap, np, cp, hb⟩, hg⟩ := h
  have h1 := hg.n
  have h2 := hg.s0
  have h3 := hg.s1
  have h4 := hg.bl
  have h5 := hg.pl
  have h6 := hg.kl
  have stay : mayB has x = false → ∀ w', Below w.heap.size w w' → BuS w' g base r (takeB has x) (goB r has st x) ∧ Below base w w' ∧ KeepT w w' := by
    intro hm w' hb'
    unfold takeB goB
    rw [hm, if_neg (by decide), if_neg (by decide)]
    exact ⟨hS.below hb', hb'.mono hb.bw, keepT_below hb'⟩
  by_cases hok : okI x = true
  · obtain ⟨hv, hz⟩ := okI_parts hok
    have move : mayB has x = true → ∀ (w' : World) (vk' vb' vp' : Value), BuAt w' g base r (stepB r st x).s (stepB r st x).n (kI x) vk' vb' vp' (stepB r st x).key (stepB r st x).bytes (stepB r st x).places → BuS w' g base r (takeB has x) (goB r has st x) := by
      intro hm w' vk' vb' vp' hb'
      obtain ⟨a1, a2, a3, rfl⟩ := R_mv hb'.key
      obtain ⟨a4, a5, a6, rfl⟩ := R_mv hb'.bytes
      obtain ⟨a7, a8, a9, rfl⟩ := R_mv hb'.places
      unfold takeB goB
      rw [if_pos hm, if_pos hm]
      exact ⟨⟨_, _, _, _, _, _, _, _, _, by rw [lastK_snoc]; exact hb'⟩, good_step hg hok⟩
    by_cases hn : st.n = 0
    · have hm : mayB has x = true := by unfold mayB; rw [hok, isEmpty_len, decide_eq_true (show has.length = 0 by omega)]; rfl
      refine (bu_add_a w g base r st.s st.n (lastK has).1 (lastK has).2.1 (lastK has).2.2 Ak nk ck Ab nb cb Ap np cp st.key st.bytes st.places x.f0.f0 x.f0.f1 x.f0.f2 x.f1 hb hr hkn hv hz (by omega) (by omega) h2 (by omega) (by omega) (by omega) (by omega) hn).mono ?_
      rintro e w' ⟨vk', vb', vp', rfl, hb', hw, hk⟩
      refine ⟨0, rfl, by rw [hm]; rfl, move hm w' vk' vb' vp' ?_, hw, keepT_kept hb hk⟩
      unfold stepB
      rw [if_pos (.inl hn), hn]
      exact hb'
    · have hne : has.isEmpty = false := by rw [isEmpty_len]; exact decide_eq_false (by omega)
      by_cases hc : kcmp (lastK has) (kI x) < 0
      · have hm : mayB has x = true := by unfold mayB; rw [hok, hne, decide_eq_true hc]; rfl
        by_cases hs : r = st.s
        · refine (bu_add_b w g base r st.s st.n (lastK has).1 (lastK has).2.1 (lastK has).2.2 Ak nk ck Ab nb cb Ap np cp st.key st.bytes st.places x.f0.f0 x.f0.f1 x.f0.f2 x.f1 hb hr hkn hv hz (by omega) (by omega) h2 (by omega) (by omega) (by omega) (by omega) (by omega) hc hs).mono ?_
          rintro e w' ⟨vk', vb', vp', rfl, hb', hw, hk⟩
          refine ⟨0, rfl, by rw [hm]; rfl, move hm w' vk' vb' vp' ?_, hw, keepT_kept hb hk⟩
          unfold stepB
          rw [if_pos (.inr hs)]
          exact hb'
        · refine (bu_add_c w g base r st.s st.n (lastK has).1 (lastK has).2.1 (lastK has).2.2 Ak nk ck Ab nb cb Ap np cp st.key st.bytes st.places x.f0.f0 x.f0.f1 x.f0.f2 x.f1 hb hr hkn hv hz (by omega) (by omega) h2 (by omega) (by omega) (by omega) (by omega) (by omega) hc (fun e => hs e.symm)).mono ?_
          rintro e w' ⟨vk', vb', vp', rfl, hb', hw, hk⟩
          refine ⟨0, rfl, by rw [hm]; rfl, move hm w' vk' vb' vp' ?_, hw, keepT_kept hb hk⟩
          unfold stepB
          rw [if_neg (by rintro (e | e); exact hn e; exact hs e)]
          exact hb'
      · have hm : mayB has x = false := by unfold mayB; rw [hok, hne, decide_eq_false hc]; rfl
        refine (bu_add_order w g base r st.s st.n (lastK has).1 (lastK has).2.1 (lastK has).2.2 Ak nk ck Ab nb cb Ap np cp st.key st.bytes st.places x.f0.f0 x.f0.f1 x.f0.f2 x.f1 hb hr hkn hv hz (by omega) (by omega) h2 (by omega) (by omega) (by omega) (by omega) (by omega) (Int.not_lt.1 hc)).mono ?_
        rintro e w' ⟨rfl, hw⟩
        exact ⟨80, rfl, by rw [hm]; rfl, stay hm w' hw⟩
  · have hm : mayB has x = false := by unfold mayB; rw [Bool.eq_false_iff.2 hok]; rfl
    have hbad : validOf x.f0.f0 x.f0.f1 x.f0.f2 = false ∨ 65536 < x.f1.size := by
      by_cases hv : validOf x.f0.f0 x.f0.f1 x.f0.f2 = true
      · right
        refine Nat.lt_of_not_le fun hz => hok ?_
        unfold okI
        rw [hv, decide_eq_true hz]
        rfl
      · exact .inl (Bool.eq_false_iff.2 hv)
    refine (bu_arg w g r hr ((blk_cell hb.cell 0).trans rfl) x.f0.f0 x.f0.f1 x.f0.f2 x.f1 hkn hbad).mono ?_
    rintro e w' ⟨rfl, hw⟩
    exact ⟨2, rfl, by rw [hm]; rfl, stay hm w' hw⟩

end Go.Proofs.Ytbhifenkfoddgaa.G
