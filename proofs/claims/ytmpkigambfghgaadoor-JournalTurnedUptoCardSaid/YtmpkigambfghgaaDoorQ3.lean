/- Contracts of functions and plain laws, several texts of the session put together by its program. -/
import Derived.Test.YtmpkigambfghgaaDoorProg
import Derived.Below
import Derived.Deep.Draws
import Derived.Deep.AppendLies
import Derived.Maps.AppendAt
import Derived.OwnWalk
import Derived.Laws.BytesArg
import Derived.Laws.MakeOwn
import Derived.Laws.OwnMore
import Derived.Deep.OwnRows
import Derived.Tactics
import Derived.Lib.ConvBytes
import Derived.Laws.Slices
import Derived.WalkKit
import Derived.KernelRfl
import Derived.RowKit3
import Derived.Deep.LoopGhost
import Derived.Deep.QuietTactic
import Derived.BigQuiet
import Derived.WideLaws
import Derived.Deep.DeepCutAuto
import Derived.Deep.CutBlock
import Derived.Deep.RegionHeld3
import Derived.Laws.Rows
import Derived.Lib.AppendStr
import Derived.ArgAppend
import Derived.Laws.IdiomCopy
import Derived.OrdersHeld
import Derived.Laws.BitsLemmas
import Derived.RowKit
import Derived.Test.YtmpkigambfghgaaDoorWWords
import Derived.Test.YtmpkigambfghgaaDoorWLast
import Derived.Test.YtmpkigambfghgaaDoorWTab
import Derived.Test.YtmpkigambfghgaaDoorWFour
import Derived.Test.YtmpkigambfghgaaDoorWQPut
import Derived.Test.YtmpkigambfghgaaDoorWApart
import Derived.Test.YtmpkigambfghgaaDoorWArr
import Derived.Test.YtmpkigambfghgaaDoorWZeros
import Derived.Test.YtmpkigambfghgaaDoorWFoot
import Derived.Test.YtmpkigambfghgaaDoorWKept
import Derived.Test.YtmpkigambfghgaaDoorWShare
import Derived.Test.YtmpkigambfghgaaDoorWN
import Derived.Test.YtmpkigambfghgaaDoorWFootNe
import Derived.Test.YtmpkigambfghgaaDoorWAt
import Derived.Test.YtmpkigambfghgaaDoorWEqStruct
import Derived.Test.YtmpkigambfghgaaDoorWRepsOne
import Derived.Test.YtmpkigambfghgaaDoorWInv
import Derived.Test.YtmpkigambfghgaaDoorWInvWords
import Derived.Test.YtmpkigambfghgaaDoorWGuard
import Derived.Test.YtmpkigambfghgaaDoorWNEv
import Derived.Test.YtmpkigambfghgaaDoorWMore
import Derived.Test.YtmpkigambfghgaaDoorQ1

/- Contracts typed by hand: journal: a byte of a file turned -/
namespace Go.Proofs.YtmpkigambfghgaaDoor.G
open Go.RowKit Go.Proofs.YtmpkigambfghgaaDoorW.PrintWords Go.Proofs.YtmpkigambfghgaaDoorW.PrintLast Go.Proofs.YtmpkigambfghgaaDoorW.PrintMore
attribute [local go_sem] max2_int min2_int max_two min_two max_three min_three max_four min_four
set_option linter.unusedVariables false
set_option linter.unusedSimpArgs false

/-! journal: a byte of a file turned -/
theorem crcB_inj : ∀ (l : List Nat) {a b : Nat}, a < 4294967296 → b < 4294967296 → (∀ x ∈ l, x < 256) → crcB a l = crcB b l → a = b
  | [], _, _, _, _, _, h => h
  | x :: l, a, b, ha, hb, hl, h => by
    have hx := hl x List.mem_cons_self
    rw [crcB_cons, crcB_cons] at h
    have h1 := crcB_inj l (crcN_lt 8 (xor_lt ha (by omega))) (crcN_lt 8 (xor_lt hb (by omega))) (fun y hy => hl y (List.mem_cons_of_mem _ hy)) h
    have h2 := crcN_inj 8 (xor_lt ha (by omega)) (xor_lt hb (by omega)) h1
    rw [← xor_cancel a x, h2, xor_cancel]
theorem ext_turn (u v : List Int) (x y : Int) (hu : Byt u) (hv : Byt v) (hx : 0 ≤ x ∧ x < 256) (hy : 0 ≤ y ∧ y < 256) (h : ext 0 (u ++ x :: v) = ext 0 (u ++ y :: v)) : x = y := by
  have h1 := inv_inj h
  unfold natl at h1
  rw [List.map_append, List.map_append, crcB_append, crcB_append, List.map_cons, List.map_cons, crcB_cons, crcB_cons] at h1
  have hr := crcB_lt (natl u) (inv 0) (inv_lt (by omega)) (natl_byt hu)
  unfold natl at hr
  generalize crcB (inv 0) (u.map Int.toNat) = r at *
  have h2 := crcB_inj (v.map Int.toNat) (crcN_lt 8 (xor_lt hr (by omega))) (crcN_lt 8 (xor_lt hr (by omega))) (natl_byt hv) h1
  have h3 := crcN_inj 8 (xor_lt hr (by omega)) (xor_lt hr (by omega)) h2
  have h4 : x.toNat = y.toNat := by rw [← xor_cancel x.toNat r, Nat.xor_comm x.toNat, h3, Nat.xor_comm r, xor_cancel]
  omega
theorem sumN_kind (k1 k2 : Int) (d : List Int) (hd : Byt d) (h1 : 0 ≤ k1 ∧ k1 < 256) (h2 : 0 ≤ k2 ∧ k2 < 256) (h : sumN k1 d = sumN k2 d) : k1 = k2 := by
  have h3 := maskN_inj (ext_lt (by omega) (hd.cons h1.1 h1.2)) (ext_lt (by omega) (hd.cons h2.1 h2.2)) h
  exact ext_turn [] d k1 k2 Byt.nil hd h1 h2 h3
theorem set_form (d : List Int) (i : Nat) (hi : i < d.length) (y : Int) : d = d.take i ++ d[i] :: d.drop (i + 1) ∧ d.set i y = d.take i ++ y :: d.drop (i + 1) := by
  refine ⟨?_, ?_⟩
  · rw [← List.drop_eq_getElem_cons hi, List.take_append_drop]
  · rw [List.set_eq_take_append_cons_drop, if_pos hi]
theorem Byt.set {d : List Int} (hd : Byt d) (i : Nat) (y : Int) (h0 : 0 ≤ y) (h1 : y < 256) : Byt (d.set i y) := fun x hx => by
  rcases List.mem_or_eq_of_mem_set hx with h | rfl
  · exact hd x h
  · exact ⟨h0, h1⟩
theorem sumN_turn (k : Int) (hk : 0 ≤ k ∧ k < 256) (d : List Int) (hd : Byt d) (i : Nat) (hi : i < d.length) (y : Int) (hy : 0 ≤ y ∧ y < 256) (hne : d[i] ≠ y) : sumN k (d.set i y) ≠ sumN k d := by
  intro h
  have h3 := maskN_inj (ext_lt (by omega) ((hd.set i y hy.1 hy.2).cons hk.1 hk.2)) (ext_lt (by omega) (hd.cons hk.1 hk.2)) h
  obtain ⟨e1, e2⟩ := set_form d i hi y
  rw [e2] at h3
  generalize hx : d[i] = x at *
  have hxb : 0 ≤ x ∧ x < 256 := by rw [← hx]; exact hd _ (List.getElem_mem hi)
  conv at h3 => rhs; rw [e1]
  exact hne (ext_turn (k :: d.take i) (d.drop (i + 1)) y x ((hd.take i).cons hk.1 hk.2) (hd.drop _) hy hxb h3).symm
theorem set_app (a b : List Int) (c : Nat) (y : Int) : (a ++ b).set (a.length + c) y = a ++ b.set c y := by
  rw [List.set_append_right _ _ (Nat.le_add_right _ _), Nat.add_sub_cancel_left]
theorem set_left (a b : List Int) (c : Nat) (y : Int) (h : c < a.length) : (a ++ b).set c y = a.set c y ++ b := List.set_append_left _ _ h
theorem getD_app (a b : List Int) (c : Nat) : (a ++ b).getD (a.length + c) 0 = b.getD c 0 := by
  rw [List.getD_eq_getElem?_getD, List.getD_eq_getElem?_getD, List.getElem?_append_right (by omega), Nat.add_sub_cancel_left]
theorem getD_left (a b : List Int) (c : Nat) (h : c < a.length) : (a ++ b).getD c 0 = a.getD c 0 := by
  rw [List.getD_eq_getElem?_getD, List.getD_eq_getElem?_getD, List.getElem?_append_left h]
theorem piece_gen (pre d rest : List Int) (a b c e n0 n1 k : Int) (hn : n0.toNat + 256 * n1.toNat = d.length) (f : List Int) (hf : f = pre ++ (a :: b :: c :: e :: n0 :: n1 :: k :: (d ++ rest))) :
    le4N f pre.length = a.toNat + 256 * b.toNat + 65536 * c.toNat + 16777216 * e.toNat ∧ nN f pre.length = d.length ∧ rdn f (pre.length + 6) = k.toNat ∧ dataN f pre.length = d ∧ f.length = pre.length + 7 + d.length + rest.length := by
  obtain ⟨h1, h2, h3, h4, h5⟩ := head_at pre (d ++ rest) a b c e n0 n1 k f hf
  rw [hn] at h2
  refine ⟨h1, h2, h3, ?_, by rw [h5, List.length_append]; omega⟩
  unfold dataN
  rw [h4, h2, List.take_left']
  rfl
theorem bent_sum (f : List Int) (p : Nat) (d : List Int) (o : Bool) (h : le4N f p ≠ sumN ((rdn f (p + 6) : Nat) : Int) (dataN f p)) : bentN f p d o = true := by
  unfold bentN
  have : (le4N f p != sumN ((rdn f (p + 6) : Nat) : Int) (dataN f p)) = true := by simpa using h
  rw [this]
  rfl
theorem turn_piece (blk : Nat) (pre rest : List Int) (kind : Nat) (hk : 1 ≤ kind ∧ kind ≤ 4) (d0 : List Int) (hb : Byt d0) (hd : d0.length < 65536) (hroom : d0.length + 7 ≤ blk - pre.length % blk) (c : Nat) (hc : c < 7 + d0.length) (h4 : c ≠ 4) (h5 : c ≠ 5) (y : Int) (hy : 0 ≤ y ∧ y < 256) (hne : (pieceJ kind d0).getD c 0 ≠ y)
    (f : List Int) (hf : f = pre ++ ((pieceJ kind d0).set c y ++ rest)) (d : List Int) (o : Bool) : Reads blk f pre.length d o [] 2 := by
  have hs := sumN_lt kind d0
  have hr7 : 7 ≤ blk - pre.length % blk := by omega
  have hrm : d0.length ≤ blk - pre.length % blk - 7 := by omega
  have hn : ((d0.length % 256 : Nat) : Int).toNat + 256 * ((d0.length / 256 % 256 : Nat) : Int).toNat = d0.length := by rw [Int.toNat_natCast, Int.toNat_natCast]; omega
  rw [piece_cons] at hf hne
  obtain ⟨s, hse⟩ : ∃ s, sumN (kind : Int) d0 = s := ⟨_, rfl⟩
  rw [hse] at hf hne hs
  have fin : ∀ (a b c' e k : Int) (d1 : List Int) (hl : d1.length = d0.length) (hk1 : 1 ≤ k.toNat) (hk4 : k.toNat ≤ 4) (hf : f = pre ++ (a :: b :: c' :: e :: ((d0.length % 256 : Nat) : Int) :: ((d0.length / 256 % 256 : Nat) : Int) :: k :: (d1 ++ rest))) (hbent : a.toNat + 256 * b.toNat + 65536 * c'.toNat + 16777216 * e.toNat ≠ sumN ((k.toNat : Nat) : Int) d1), Reads blk f pre.length d o [] 2 := by
    intro a b c' e k d1 hl hk1 hk4 hf hbent
    obtain ⟨a1, a2, a3, a4, a5⟩ := piece_gen pre d1 rest a b c' e _ _ k (by rw [hl]; exact hn) f hf
    refine Reads.bent _ _ _ (by rw [a2, a5]; exact Nat.le_add_right _ _) hr7 (by rw [a3]; exact hk1) (by rw [a3]; exact hk4) (by rw [a2, hl]; exact hrm) (bent_sum f _ d o ?_)
    rw [a1, a3, a4]
    exact hbent
  match c, hc, h4, h5, hf, hne with
  | 0, _, _, _, hf, hne =>
    have hne : ((s % 256 : Nat) : Int) ≠ y := hne
    refine fin y _ _ _ (kind : Int) d0 rfl (by omega) (by omega) hf ?_
    rw [Int.toNat_natCast, Int.toNat_natCast, Int.toNat_natCast, Int.toNat_natCast, hse]
    omega
  | 1, _, _, _, hf, hne =>
    have hne : ((s / 256 % 256 : Nat) : Int) ≠ y := hne
    refine fin _ y _ _ (kind : Int) d0 rfl (by omega) (by omega) hf ?_
    rw [Int.toNat_natCast, Int.toNat_natCast, Int.toNat_natCast, Int.toNat_natCast, hse]
    omega
  | 2, _, _, _, hf, hne =>
    have hne : ((s / 65536 % 256 : Nat) : Int) ≠ y := hne
    refine fin _ _ y _ (kind : Int) d0 rfl (by omega) (by omega) hf ?_
    rw [Int.toNat_natCast, Int.toNat_natCast, Int.toNat_natCast, Int.toNat_natCast, hse]
    omega
  | 3, _, _, _, hf, hne =>
    have hne : ((s / 16777216 % 256 : Nat) : Int) ≠ y := hne
    refine fin _ _ _ y (kind : Int) d0 rfl (by omega) (by omega) hf ?_
    rw [Int.toNat_natCast, Int.toNat_natCast, Int.toNat_natCast, Int.toNat_natCast, hse]
    omega
  | 4, _, h, _, _, _ => exact absurd rfl h
  | 5, _, _, h, _, _ => exact absurd rfl h
  | 6, _, _, _, hf, hne =>
    have hne : (kind : Int) ≠ y := hne
    by_cases hy4 : 1 ≤ y.toNat ∧ y.toNat ≤ 4
    · refine fin _ _ _ _ y d0 rfl hy4.1 hy4.2 hf ?_
      rw [Int.toNat_natCast, Int.toNat_natCast, Int.toNat_natCast, Int.toNat_natCast]
      intro h
      have h2 : sumN ((y.toNat : Nat) : Int) d0 = sumN (kind : Int) d0 := by rw [← h, hse]; omega
      have := sumN_kind _ _ d0 hb (by omega) (by omega) h2
      omega
    · obtain ⟨a1, a2, a3, a4, a5⟩ := piece_gen pre d0 rest _ _ _ _ _ _ y hn f hf
      exact Reads.none _ _ _ (by omega) (by omega) (by rw [a3]; omega)
  | i + 7, hc, _, _, hf, hne =>
    have hi : i < d0.length := by omega
    have hne : d0.getD i 0 ≠ y := hne
    rw [List.getD_eq_getElem?_getD, List.getElem?_eq_getElem hi, Option.getD_some] at hne
    refine fin _ _ _ _ (kind : Int) (d0.set i y) (by simp) (by omega) (by omega) hf ?_
    rw [Int.toNat_natCast, Int.toNat_natCast, Int.toNat_natCast, Int.toNat_natCast, Int.toNat_natCast]
    intro h
    refine sumN_turn (kind : Int) (by omega) d0 hb i hi y hy hne ?_
    rw [← h, hse]
    omega
/-- the way to the piece in which a place lies -/
def walkF (blk : Nat) (f : List Int) (place : Nat) : Nat → Nat → Nat
  | 0, a => a
  | K + 1, a => if f.length < a + 7 then a else if blk - a % blk < 7 then walkF blk f place K (a + (blk - a % blk)) else if place < a + (7 + nN f a) then a else walkF blk f place K (a + (7 + nN f a))
theorem walk_pad (blk : Nat) (h : 32 ≤ blk) (pre g : List Int) (hg : 7 ≤ g.length) (f : List Int) (hf : f = pre ++ (List.replicate (padJ blk (pre.length % blk)) 0 ++ g)) (place K : Nat) (hK : f.length + 1 ≤ pre.length + K) :
    ∃ K', f.length + 1 ≤ pre.length + padJ blk (pre.length % blk) + K' ∧ walkF blk f place K pre.length = walkF blk f place K' (pre.length + padJ blk (pre.length % blk)) := by
  obtain ⟨_, _, h3, h4⟩ := room_at blk pre.length h
  generalize hpad : padJ blk (pre.length % blk) = pad at *
  have hlen : f.length = pre.length + pad + g.length := by rw [hf, List.length_append, List.length_append, List.length_replicate]; omega
  by_cases hz : pad = 0
  · subst hz; exact ⟨K, hK, rfl⟩
  · obtain ⟨e1, e2⟩ := h3 hz
    cases K with
    | zero => omega
    | succ K =>
      refine ⟨K, by omega, ?_⟩
      rw [walkF, if_neg (by omega), if_pos e2, e1]
theorem walk_here (blk : Nat) (pre rest d0 : List Int) (kind : Nat) (hd : d0.length < 65536) (hroom : 7 ≤ blk - pre.length % blk) (f : List Int) (hf : f = pre ++ (pieceJ kind d0 ++ rest)) (place K : Nat) (hp : place < pre.length + 7 + d0.length) (hK : f.length + 1 ≤ pre.length + K) : walkF blk f place K pre.length = pre.length := by
  obtain ⟨a1, a2, a3, a4, a5⟩ := piece_at pre rest d0 kind hd f hf
  cases K with
  | zero => omega
  | succ K => rw [walkF, if_neg (by omega), if_neg (by omega), a2, if_pos (by omega)]
theorem walk_pass (blk : Nat) (pre rest d0 : List Int) (kind : Nat) (hd : d0.length < 65536) (hroom : 7 ≤ blk - pre.length % blk) (f : List Int) (hf : f = pre ++ (pieceJ kind d0 ++ rest)) (place K : Nat) (hp : pre.length + 7 + d0.length ≤ place) (hK : f.length + 1 ≤ pre.length + K) :
    ∃ K', f.length + 1 ≤ pre.length + 7 + d0.length + K' ∧ walkF blk f place K pre.length = walkF blk f place K' (pre.length + 7 + d0.length) := by
  obtain ⟨a1, a2, a3, a4, a5⟩ := piece_at pre rest d0 kind hd f hf
  cases K with
  | zero => omega
  | succ K =>
    refine ⟨K, by omega, ?_⟩
    rw [walkF, if_neg (by omega), if_neg (by omega), a2, if_neg (by omega), Nat.add_assoc pre.length]
theorem walk_add (blk : Nat) (h : 32 ≤ blk) (h2 : blk ≤ 32768) : ∀ (k : Nat) (pre : List Int) (first : Bool) (r rest : List Int) (f : List Int) (place K : Nat), Enough blk k (pre.length % blk) r.length →
    f = pre ++ (addJ blk k (pre.length % blk) first r ++ rest) → f.length + 1 ≤ pre.length + K → pre.length + (addJ blk k (pre.length % blk) first r).length ≤ place →
    ∃ K', f.length + 1 ≤ pre.length + (addJ blk k (pre.length % blk) first r).length + K' ∧ walkF blk f place K pre.length = walkF blk f place K' (pre.length + (addJ blk k (pre.length % blk) first r).length)
  | 0, pre, _, r, _, _, _, _, hE, _, _, _ => by unfold Enough at hE; split at hE <;> omega
  | k + 1, pre, first, r, rest, f, place, K, hE, hf, hK, hp => by
    obtain ⟨r1, r2, r3, r4⟩ := room_at blk pre.length h
    have hpm := pad_most h (pre.length % blk)
    have hnx := fun hn => hE.next (p := pre.length % blk) h hn
    have hwp := fun (g : List Int) (hg : 7 ≤ g.length) hf => walk_pad blk h pre g hg f hf place K hK
    unfold addJ at hf hp ⊢
    generalize hpad : padJ blk (pre.length % blk) = pad at *
    generalize hmost : mostJ blk (pre.length % blk) = most at *
    have hplen : (pre ++ List.replicate pad (0 : Int)).length = pre.length + pad := by rw [List.length_append, List.length_replicate]
    by_cases hlast : r.length ≤ most
    · rw [if_pos hlast] at hf hp ⊢
      rw [List.length_append, List.length_replicate, piece_len] at hp ⊢
      have hf2 : f = (pre ++ List.replicate pad 0) ++ (pieceJ (kindJ first true) r ++ rest) := by rw [hf]; simp only [List.append_assoc]
      obtain ⟨K1, hK1, e1⟩ := hwp (pieceJ (kindJ first true) r ++ rest) (by rw [List.length_append, piece_len]; omega) (by rw [hf]; simp only [List.append_assoc])
      obtain ⟨K2, hK2, e2⟩ := walk_pass blk _ rest r (kindJ first true) (by omega) (by rw [hplen]; omega) f hf2 place K1 (by rw [hplen]; omega) (by rw [hplen]; exact hK1)
      rw [hplen] at hK2 e2
      refine ⟨K2, by omega, ?_⟩
      rw [e1, e2, show pre.length + pad + 7 + r.length = pre.length + (pad + (7 + r.length)) by omega]
    · rw [if_neg hlast] at hf hp ⊢
      obtain ⟨d0, hd0⟩ : ∃ d0, r.take most = d0 := ⟨_, rfl⟩
      have hd0l : d0.length = most := by rw [← hd0, List.length_take]; omega
      rw [hd0] at hf hp ⊢
      rw [List.length_append, List.length_append, List.length_replicate, piece_len] at hp ⊢
      have hf2 : f = (pre ++ List.replicate pad 0) ++ (pieceJ (kindJ first false) d0 ++ (addJ blk k 0 false (r.drop most) ++ rest)) := by rw [hf]; simp only [List.append_assoc]
      obtain ⟨K1, hK1, e1⟩ := hwp (pieceJ (kindJ first false) d0 ++ (addJ blk k 0 false (r.drop most) ++ rest)) (by rw [List.length_append, piece_len]; omega) (by rw [hf]; simp only [List.append_assoc])
      obtain ⟨K2, hK2, e2⟩ := walk_pass blk _ _ d0 (kindJ first false) (by omega) (by rw [hplen]; omega) f hf2 place K1 (by rw [hplen]; omega) (by rw [hplen]; exact hK1)
      rw [hplen] at hK2 e2
      obtain ⟨pre2, hpre2⟩ : ∃ pre2, pre ++ (List.replicate pad 0 ++ pieceJ (kindJ first false) d0) = pre2 := ⟨_, rfl⟩
      have hl2 : pre2.length = pre.length + pad + 7 + most := by rw [← hpre2, List.length_append, List.length_append, List.length_replicate, piece_len]; omega
      have hm2 : pre2.length % blk = 0 := by rw [hl2]; exact r2
      have hE2 := hnx hlast
      obtain ⟨K3, hK3, e3⟩ := walk_add blk h h2 k pre2 false (r.drop most) rest f place K2 (by rw [hm2, List.length_drop]; exact hE2) (by rw [hm2, ← hpre2, hf]; simp only [List.append_assoc]) (by omega) (by rw [hm2]; omega)
      rw [hm2, hl2] at hK3 e3
      refine ⟨K3, by omega, ?_⟩
      rw [e1, e2, hd0l, e3]
      congr 1
      omega
theorem read_turn (blk : Nat) (h : 32 ≤ blk) (h2 : blk ≤ 32768) (y : Int) (hy : 0 ≤ y ∧ y < 256) : ∀ (k : Nat) (pre : List Int) (first : Bool) (r d rest : List Int) (c : Nat) (f0 f : List Int) (K e : Nat), Enough blk k (pre.length % blk) r.length → d.length + r.length ≤ 2097152 → Byt r → c < (addJ blk k (pre.length % blk) first r).length →
    (addJ blk k (pre.length % blk) first r).getD c 0 ≠ y → f0 = pre ++ (addJ blk k (pre.length % blk) first r ++ rest) → f0.length + 1 ≤ pre.length + K → walkF blk f0 (pre.length + c) K pre.length = e → pre.length + c ≠ e + 4 → pre.length + c ≠ e + 5 →
    f = pre ++ ((addJ blk k (pre.length % blk) first r).set c y ++ rest) → Reads blk f pre.length d (!first) [] 2
  | 0, pre, _, r, _, _, _, _, _, _, _, hE, _, _, _, _, _, _, _, _, _, _ => by unfold Enough at hE; split at hE <;> omega
  | k + 1, pre, first, r, d, rest, c, f0, f, K, e, hE, hd, hb, hc, hne, hf0, hK, hw, he4, he5, hf => by
    obtain ⟨r1, r2, r3, r4⟩ := room_at blk pre.length h
    have hpm := pad_most h (pre.length % blk)
    have hnx := fun hn => hE.next (p := pre.length % blk) h hn
    have hwp := fun (g : List Int) (hg : 7 ≤ g.length) hf0 => walk_pad blk h pre g hg f0 hf0 (pre.length + c) K hK
    have hpassp := fun (g : List Int) (hg : g ≠ []) (hw : Nat) => pass_pad blk h pre g hg d (!first) [] hw f
    unfold addJ at hf hf0 hc hne
    generalize hpad : padJ blk (pre.length % blk) = pad at *
    generalize hmost : mostJ blk (pre.length % blk) = most at *
    have hplen : (pre ++ List.replicate pad (0 : Int)).length = pre.length + pad := by rw [List.length_append, List.length_replicate]
    have hrl : (List.replicate pad (0 : Int)).length = pad := List.length_replicate
    by_cases hcp : c < pad
    · obtain ⟨e1, e2⟩ := r3 (by omega)
      have key : ∀ g : List Int, (List.replicate pad (0 : Int) ++ g).getD c 0 ≠ y → f = pre ++ ((List.replicate pad (0 : Int) ++ g).set c y ++ rest) → Reads blk f pre.length d (!first) [] 2 := by
        intro g hne hf
        rw [getD_left _ _ _ (by rw [hrl]; exact hcp), List.getD_eq_getElem?_getD, List.getElem?_replicate, if_pos hcp, Option.getD_some] at hne
        rw [set_left _ _ _ _ (by rw [hrl]; exact hcp), List.append_assoc] at hf
        have hlen : f.length = pre.length + pad + (g ++ rest).length := by rw [hf, List.length_append, List.length_append, List.length_set, hrl]; omega
        have hset : ∀ j, j < pad → rdn f (pre.length + j) = (if j = c then y.toNat else 0) := by
          intro j hj
          rw [hf, rdn_app, rdn_left _ _ _ (by rw [List.length_set, hrl]; exact hj)]
          unfold rdn
          rw [List.getD_eq_getElem?_getD]
          by_cases hjc : j = c
          · subst hjc
            rw [List.getElem?_set_self (by rw [hrl]; exact hj), if_pos rfl]
            rfl
          · rw [List.getElem?_set_ne (by omega), List.getElem?_replicate, if_pos hj, if_neg hjc]
            rfl
        refine Reads.padBent _ _ _ (pre.length + c) (by omega) e2 (by omega) (by omega) ?_ ?_
        · rw [hset c hcp, if_pos rfl]; omega
        · intro j j1 j2
          obtain ⟨i, rfl⟩ : ∃ i, j = pre.length + i := ⟨j - pre.length, by omega⟩
          rw [hset i (by omega), if_neg (by omega)]
      split at hf
      · rename_i hl; rw [if_pos hl] at hne; exact key _ hne hf
      · rename_i hl; rw [if_neg hl, List.append_assoc] at hne; rw [List.append_assoc (List.replicate pad (0 : Int))] at hf; exact key _ hne hf
    obtain ⟨c, rfl⟩ : ∃ c', c = (List.replicate pad (0 : Int)).length + c' := ⟨c - pad, by rw [hrl]; omega⟩
    by_cases hlast : r.length ≤ most
    · rw [if_pos hlast] at hf hf0 hc hne
      rw [List.length_append, List.length_replicate, piece_len] at hc
      rw [getD_app] at hne
      rw [set_app, List.append_assoc] at hf
      have hf2 : f0 = (pre ++ List.replicate pad 0) ++ (pieceJ (kindJ first true) r ++ rest) := by rw [hf0]; simp only [List.append_assoc]
      obtain ⟨K1, hK1, e1⟩ := hwp (pieceJ (kindJ first true) r ++ rest) (by rw [List.length_append, piece_len]; omega) (by rw [hf0]; simp only [List.append_assoc])
      have e2 := walk_here blk _ rest r (kindJ first true) (by omega) (by rw [hplen]; omega) f0 hf2 (pre.length + ((List.replicate pad (0 : Int)).length + c)) K1 (by rw [hplen, hrl]; omega) (by rw [hplen]; exact hK1)
      rw [hplen] at e2
      rw [e1, e2] at hw
      rw [hrl] at he4 he5
      refine hpassp ((pieceJ (kindJ first true) r).set c y ++ rest) ?_ 2 hf ?_
      · intro h0
        have := congrArg List.length h0
        rw [List.length_append, List.length_set, piece_len] at this
        simp at this
      · rw [← hplen]
        exact turn_piece blk _ rest _ (kindJ_range first true) r hb (by omega) (by rw [hplen]; omega) c (by omega) (by omega) (by omega) y hy hne f (by rw [hf, List.append_assoc]) d _
    · rw [if_neg hlast] at hf hf0 hc hne
      obtain ⟨d0, hd0⟩ : ∃ d0, r.take most = d0 := ⟨_, rfl⟩
      have hd0l : d0.length = most := by rw [← hd0, List.length_take]; omega
      have hb0 : Byt d0 := by rw [← hd0]; exact hb.take _
      rw [hd0] at hf hf0 hc hne
      rw [List.length_append, List.length_append, List.length_replicate, piece_len] at hc
      rw [List.append_assoc, getD_app] at hne
      rw [List.append_assoc (List.replicate pad (0 : Int)), set_app, List.append_assoc] at hf
      have hf2 : f0 = (pre ++ List.replicate pad 0) ++ (pieceJ (kindJ first false) d0 ++ (addJ blk k 0 false (r.drop most) ++ rest)) := by rw [hf0]; simp only [List.append_assoc]
      obtain ⟨K1, hK1, e1⟩ := hwp (pieceJ (kindJ first false) d0 ++ (addJ blk k 0 false (r.drop most) ++ rest)) (by rw [List.length_append, piece_len]; omega) (by rw [hf0]; simp only [List.append_assoc])
      by_cases hcq : c < (pieceJ (kindJ first false) d0).length
      · rw [getD_left _ _ _ hcq] at hne
        rw [set_left _ _ _ _ hcq, List.append_assoc] at hf
        rw [piece_len] at hcq
        have e2 := walk_here blk _ _ d0 (kindJ first false) (by omega) (by rw [hplen]; omega) f0 hf2 (pre.length + ((List.replicate pad (0 : Int)).length + c)) K1 (by rw [hplen, hrl]; omega) (by rw [hplen]; exact hK1)
        rw [hplen] at e2
        rw [e1, e2] at hw
        rw [hrl] at he4 he5
        refine hpassp ((pieceJ (kindJ first false) d0).set c y ++ (addJ blk k 0 false (r.drop most) ++ rest)) ?_ 2 hf ?_
        · intro h0
          have := congrArg List.length h0
          rw [List.length_append, List.length_set, piece_len] at this
          simp at this
        · rw [← hplen]
          exact turn_piece blk _ _ _ (kindJ_range first false) d0 hb0 (by omega) (by rw [hplen]; omega) c (by omega) (by omega) (by omega) y hy hne f (by rw [hf, List.append_assoc]) d _
      · obtain ⟨c, rfl⟩ : ∃ c', c = (pieceJ (kindJ first false) d0).length + c' := ⟨c - (pieceJ (kindJ first false) d0).length, by omega⟩
        rw [getD_app] at hne
        rw [set_app, List.append_assoc] at hf
        obtain ⟨pre2, hpre2⟩ : ∃ pre2, pre ++ (List.replicate pad 0 ++ pieceJ (kindJ first false) d0) = pre2 := ⟨_, rfl⟩
        have hl2 : pre2.length = pre.length + pad + 7 + most := by rw [← hpre2, List.length_append, List.length_append, List.length_replicate, piece_len]; omega
        have hm2 : pre2.length % blk = 0 := by rw [hl2]; exact r2
        have hpl : pre.length + ((List.replicate pad (0 : Int)).length + ((pieceJ (kindJ first false) d0).length + c)) = pre2.length + c := by rw [hl2, hrl, piece_len]; omega
        rw [hpl] at e1 he4 he5 hw
        rw [piece_len] at hc
        obtain ⟨K2, hK2, e2⟩ := walk_pass blk _ _ d0 (kindJ first false) (by omega) (by rw [hplen]; omega) f0 hf2 (pre2.length + c) K1 (by rw [hplen]; omega) (by rw [hplen]; exact hK1)
        rw [hplen] at hK2 e2
        have hE2 := hnx hlast
        have hf3 : f = (pre ++ List.replicate pad 0) ++ (pieceJ (kindJ first false) d0 ++ ((addJ blk k 0 false (r.drop most)).set c y ++ rest)) := by rw [hf]; simp only [List.append_assoc]
        obtain ⟨a1, a2, a3, a4, a5⟩ := piece_at _ _ d0 (kindJ first false) (by omega) f hf3
        rw [hplen] at a1 a2 a3 a4 a5
        have ih := read_turn blk h h2 y hy k pre2 false (r.drop most) (d ++ d0) rest c f0 f K2 e (by rw [hm2, List.length_drop]; exact hE2) (by rw [List.length_append, List.length_drop]; omega) (hb.drop _) (by rw [hm2]; omega) (by rw [hm2]; exact hne) (by rw [hm2, ← hpre2, hf0]; simp only [List.append_assoc]) (by omega)
          (by rw [← hw, e1, e2, hl2, hd0l]) he4 he5 (by rw [hm2, ← hpre2, hf]; simp only [List.append_assoc])
        rw [hl2] at ih
        refine hpassp (pieceJ (kindJ first false) d0 ++ ((addJ blk k 0 false (r.drop most)).set c y ++ rest)) (by simp [piece_cons]) 2 hf ?_
        exact Reads.more (blk := blk) (f := f) (pre.length + pad) d (!first) _ 2 (by rw [a2]; omega) (by omega) (by rw [a2]; omega) (bent_not f _ d d0 _ first false rfl a1 a2 a3 a4 (by omega)) (by rw [a3]; cases first <;> simp [kindJ]) (by rw [a2, a4, hd0l]; exact ih)
theorem walk_upto (blk : Nat) (h : 32 ≤ blk) (h2 : blk ≤ 32768) (rs : List (List Int)) (place K0 : Nat) : ∀ (j : Nat) (f rest : List Int), j ≤ rs.length → f = fileOf blk (rs.take j) ++ rest → f.length + 1 ≤ K0 → (fileOf blk (rs.take j)).length ≤ place →
    ∃ K', f.length + 1 ≤ (fileOf blk (rs.take j)).length + K' ∧ walkF blk f place K0 0 = walkF blk f place K' (fileOf blk (rs.take j)).length
  | 0, f, rest, _, hf, hK, _ => ⟨K0, by omega, rfl⟩
  | j + 1, f, rest, hj, hf, hK, hp => by
    have hs : fileOf blk (rs.take (j + 1)) = fileOf blk (rs.take j) ++ addR blk ((fileOf blk (rs.take j)).length % blk) (rec rs j) := by rw [take_snoc (by omega), fileOf_snoc]
    have hl : (fileOf blk (rs.take (j + 1))).length = (fileOf blk (rs.take j)).length + (addR blk ((fileOf blk (rs.take j)).length % blk) (rec rs j)).length := by rw [hs, List.length_append]
    obtain ⟨K1, hK1, e1⟩ := walk_upto blk h h2 rs place K0 j f (addR blk ((fileOf blk (rs.take j)).length % blk) (rec rs j) ++ rest) (by omega) (by rw [hf, hs, List.append_assoc]) hK (by omega)
    have hA : addR blk ((fileOf blk (rs.take j)).length % blk) (rec rs j) = addJ blk ((rec rs j).length + 2) ((fileOf blk (rs.take j)).length % blk) true (rec rs j) := rfl
    obtain ⟨K2, hK2, e2⟩ := walk_add blk h h2 ((rec rs j).length + 2) (fileOf blk (rs.take j)) true (rec rs j) rest f place K1 (enough_self _ _ _) (by rw [hf, hs, List.append_assoc, hA]) hK1 (by rw [← hA]; omega)
    rw [← hA] at hK2 e2
    refine ⟨K2, by omega, ?_⟩
    rw [e1, e2, hl]
/-- P7.2 -/
theorem read_turned (blk : Nat) (h : 32 ≤ blk) (h2 : blk ≤ 32768) (rs : List (List Int)) (hbulk : bulk rs ≤ 1048576) (hby : ∀ r ∈ rs, Byt r) (place : Nat) (y : Int) (hy : 0 ≤ y ∧ y < 256) (hne : (fileOf blk rs).getD place 0 ≠ y) (K e : Nat) (hK : (fileOf blk rs).length + 1 ≤ K) (hw : walkF blk (fileOf blk rs) place K 0 = e) (he4 : place ≠ e + 4) (he5 : place ≠ e + 5)
    (j : Nat) (hj : j < rs.length) (h3 : (fileOf blk (rs.take j)).length ≤ place) (h4 : place < (fileOf blk (rs.take (j + 1))).length) : Reads blk ((fileOf blk rs).set place y) 0 [] false (outsOf blk rs j) 2 := by
  obtain ⟨t, ht⟩ := fileOf_at blk rs j hj
  rw [take_snoc hj, fileOf_snoc, List.length_append] at h4
  have hA : addR blk ((fileOf blk (rs.take j)).length % blk) (rec rs j) = addJ blk ((rec rs j).length + 2) ((fileOf blk (rs.take j)).length % blk) true (rec rs j) := rfl
  have hrl := bulk_rec (rs := rs) (k := j) hj
  obtain ⟨c, hc⟩ : ∃ c, place = (fileOf blk (rs.take j)).length + c := ⟨place - (fileOf blk (rs.take j)).length, by omega⟩
  obtain ⟨K1, hK1, e1⟩ := walk_upto blk h h2 rs place K j (fileOf blk rs) _ (by omega) ht hK h3
  have hset : (fileOf blk rs).set place y = fileOf blk (rs.take j) ++ ((addR blk ((fileOf blk (rs.take j)).length % blk) (rec rs j)).set c y ++ t) := by
    rw [ht, hc, set_app, set_left _ _ _ _ (by omega)]
  have hr := read_turn blk h h2 y hy ((rec rs j).length + 2) (fileOf blk (rs.take j)) true (rec rs j) [] t c (fileOf blk rs) ((fileOf blk rs).set place y) K1 e (enough_self _ _ _) (by simp; omega) (hby _ (List.mem_of_getElem? (rec_get hj))) (by rw [← hA]; omega)
    (by rw [← hA]; rw [ht, hc, getD_app, getD_left _ _ _ (by omega)] at hne; exact hne) (by rw [← hA]; exact ht) hK1 (by rw [← hc, ← e1]; exact hw) (by rw [← hc]; exact he4) (by rw [← hc]; exact he5) hset
  have := read_upto blk h h2 rs hbulk j _ _ [] 2 (by omega) hset hr
  rw [List.append_nil] at this
  exact this

end Go.Proofs.YtmpkigambfghgaaDoor.G

/- Contracts typed by hand: the law JournalTurned -/
namespace Go.Proofs.YtmpkigambfghgaaDoor.G
open Go.RowKit Go.Proofs.YtmpkigambfghgaaDoorW.PrintWords Go.Proofs.YtmpkigambfghgaaDoorW.PrintLast Go.Proofs.YtmpkigambfghgaaDoorW.PrintMore
attribute [local go_sem] max2_int min2_int max_two min_two max_three min_three max_four min_four
set_option linter.unusedVariables false
set_option linter.unusedSimpArgs false

/-! the law JournalTurned -/
theorem place_val (x : Int) (FL : Nat) (h0 : 0 < FL) (h : FL ≤ 1099511627776) : ∃ place : Nat, (wrap64 (x.tmod (FL : Int) + (FL : Int))).tmod (FL : Int) = (place : Int) ∧ place < FL := by
  have h1 := Int.tmod_lt_of_pos x (b := (FL : Int)) (by omega)
  have h2 := Int.lt_tmod_of_pos x (b := (FL : Int)) (by omega)
  generalize x.tmod (FL : Int) = r at *
  rw [wr _ (by omega) (by omega), Int.tmod_eq_emod_of_nonneg (by omega)]
  have h3 := Int.emod_nonneg (r + (FL : Int)) (show (FL : Int) ≠ 0 by omega)
  have h4 := Int.emod_lt_of_pos (r + (FL : Int)) (show 0 < (FL : Int) by omega)
  exact ⟨((r + (FL : Int)) % (FL : Int)).toNat, by omega, by omega⟩
theorem wrx (x : Int) (h0 : -9223372036854775808 ≤ x) (h1 : x ≤ 9223372036854775807) : wrap64 x = x := wr x h0 h1
theorem cell_byte {F : List Int} {e : Nat} {W : World} {base : Nat} {ok : Nat → Prop} {g n cap : Nat} (h : Kd.R (Kd.int .u8) e W base ok (.slice (some ⟨g, 0, none⟩) n cap) F) (i : Nat) (hi : i < n) (hb : Byt F) : W.cell? ⟨g, i, none⟩ = some (.int .u8 ((rdn F i : Nat) : Int)) ∧ W.frozen? ⟨g, i, none⟩ = false ∧ rdn F i < 256 := by
  have q := Kd.R_celln 0 h (i : Int) (by omega) (by omega)
  rw [Int.toNat_natCast] at q
  have hr := rdn_int F i hb
  refine ⟨?_, q.2, hr.2⟩
  rw [q.1, ← hr.1]
  rfl
theorem en_val (x4 x5 nn : Nat) (h : nn = x4 + 256 * x5) : (7 : Int) + (x4 : Int) + (x5 : Int) * 256 = ((7 + nn : Nat) : Int) := by omega
theorem ew_val (a k : Nat) (h : a ≤ 1099511627776) (hk : k ≤ 100000) : wrap64 ((a : Int) + (k : Int)) = ((a + k : Nat) : Int) := by rw [wr _ (by omega) (by omega)]; omega
theorem dlt_t (p a n : Nat) (h : p < a + (7 + n)) : decide ((p : Int) < (a : Int) + (7 + (n : Int))) = true := decide_eq_true (by omega)
theorem dlt_f (p a n : Nat) (h : ¬ p < a + (7 + n)) : decide ((p : Int) < (a : Int) + (7 + (n : Int))) = false := decide_eq_false (by omega)
theorem add_zero_at (g k : Nat) : (⟨g, 0, none⟩ : Addr).add k = ⟨g, k, none⟩ := by unfold Addr.add; split <;> simp_all
theorem turn_byte (u v : Int) (hu : 0 ≤ u ∧ u < 256) (hv : 0 ≤ v ∧ v < 256) (hv0 : v ≠ 0) : (0 ≤ bits .xor .u8 u v ∧ bits .xor .u8 u v < 256) ∧ u ≠ bits .xor .u8 u v := by
  rw [u8_xor u v hu.1 hu.2 hv.1 hv.2]
  have h1 : u.toNat ^^^ v.toNat < 256 := Nat.xor_lt_two_pow (n := 8) (by show u.toNat < 256; omega) (by show v.toNat < 256; omega)
  refine ⟨⟨by omega, by omega⟩, fun h => hv0 ?_⟩
  have h2 : u.toNat ^^^ v.toNat = u.toNat := by omega
  have h3 := xor_xor u.toNat v.toNat
  rw [h2, Nat.xor_self] at h3
  omega
theorem C_other {α : Type} {enc : α → Value} {h1 : ∀ x, (enc x).oneCell' = true} {W W2 : World} {g g' n : Nat} {xs : List α} (h : (Kd.scalar enc h1).C W (some ⟨g', 0, none⟩) n xs) (hk : Kept W W2 (fun k => k = g)) (hne : g' ≠ g) : (Kd.scalar enc h1).C W2 (some ⟨g', 0, none⟩) n xs := by
  obtain ⟨a, b, c⟩ := h
  refine ⟨a, b, fun hn => ?_⟩
  obtain ⟨ad, hA, hc⟩ := c hn
  refine ⟨ad, hA, fun i p hp => ?_⟩
  obtain ⟨cs, hl, hK, hcell⟩ := hc i p hp
  refine ⟨cs, hl, hK, fun j u hu => ?_⟩
  have hcc := hcell j u hu
  have hbl : ∀ m, ((⟨g', 0, none⟩ : Addr).add m).block = g' := by intro m; unfold Addr.add; split <;> rfl
  cases hA
  have hb := hk.2 _ (World.block_lt_of_cell? W _ hcc) (by rw [hbl]; exact hne)
  unfold World.cell? at hcc ⊢
  rw [hb]
  exact hcc
theorem own_block_ne {W : World} {b b' e e' s s' n n' g g' c c' : Nat} {xs xs' : List Value} (h : W.ownsRow b e s (.slice (some ⟨g, 0, none⟩) n c) n xs) (h' : W.ownsRow b' e' s' (.slice (some ⟨g', 0, none⟩) n' c') n' xs') (hne : e ≠ e') : g ≠ g' := by
  have := own_type_ne h h' hne
  intro hg
  subst hg
  simp [Value.ownBlock] at this
theorem whole_end (blk : Nat) (h : 32 ≤ blk) (rs : List (List Int)) (i j : Nat) (hij : i < j) (hj : j ≤ rs.length) : (fileOf blk (rs.take (i + 1))).length ≤ (fileOf blk (rs.take j)).length := by
  have := fileOf_mono blk h rs (j - (i + 1)) (i + 1) (by omega)
  rw [show i + 1 + (j - (i + 1)) = j by omega] at this
  omega
set_option maxHeartbeats 16000000 in
set_option maxRecDepth 100000 in
theorem turned_calls (blk : Nat) (A0 : Option Addr) (c0 : Nat) (rs : List (List Int)) (hs : List (Option Addr × Nat × Nat)) (x v : Int) (w : World) (h1 : 32 ≤ blk) (h2 : blk ≤ 32768) (hH : Heads w rs hs) (hC : hdK.C w A0 rs.length hs) (hc0 : rs.length ≤ c0) (hby : ∀ r ∈ rs, Byt r) (hbulk : bulk rs ≤ 1048576) (hv : 0 ≤ v ∧ v < 256) (hv0 : v ≠ 0) (hT : TabAt w) :
    Calls Tryd.prog 9 #[.int .i64 (blk : Int), .slice A0 rs.length c0, .agg #[.int .i64 x, .int .u8 v]] w fun e w' => e = .returned (.bool true) ∧ Below w.heap.size w w' := by
  have HH := Aside0.mk hH
  have HC := Aside0.mk hC
  have HC0 := Aside0.mk hc0
  have HBY := Aside0.mk hby
  have HT := Aside0.mk hT
  have HBK := Aside0.mk hbulk
  have HHL := Aside0.mk hH.1
  have HVV := Aside0.mk hv
  have HVV0 := Aside0.mk hv0
  have hv0b : (v == 0) = false := by simpa using hv0
  have hfl := fileOf_len blk h1 rs rs.length (Nat.le_refl _)
  rw [List.take_length] at hfl
  have HFL := Aside0.mk (show (fileOf blk rs).length ≤ 24117248 by omega)
  have HFB := Aside0.mk (fileOf_byt blk rs hby)
  have HV := Aside0.mk (fun W => morainelaw07_valid.calls (blk : Int) true W (by unfold morainelaw07_valid.f; rw [if_pos (by omega)]; simp; omega))
  have HAL := Aside0.mk (below_alloc (Below.refl w.heap.size w) (.cells #[.int .i64 x, .int .u8 v] 64))
  clear hH hC hby hT hbulk hc0 hfl hv hv0
  go_enter Tryd.func9, Tryd.ntmps9
  go_wp2
  go_quiet (fail)
  all_goals go_wp2_with fail
  (with_reducible refine (HV.out _).mono ?_)
  rintro e w1 ⟨rfl, hd⟩
  have HB1 := Aside0.mk (below_step (pw_below_drewN HAL.out _) hd.below)
  clear hd
  go_wp2_with fail
  (with_reducible refine (written_calls blk A0 c0 rs hs _ h1 h2 (HH.out.below HB1.out) (Kd.C_below HC.out HB1.out) HC0.out HBY.out HBK.out (HT.out.below HB1.out)).mono ?_)
  rintro e w2 ⟨v0, v1, v2, rfl, hf, hE_, hk, hb⟩
  have HB2 := Aside0.mk (below_step HB1.out hb)
  have HFR := Aside0.mk hf
  have HER := Aside0.mk hE_
  have HKR := Aside0.mk hk
  obtain ⟨FL, hFL⟩ : ∃ FL, (fileOf blk rs).length = FL := ⟨_, rfl⟩
  have HFLE := Aside0.mk hFL
  have hFL2 : FL ≤ 24117248 := by have := HFL.out; omega
  have HB1S := Aside0.mk HB1.out.size
  by_cases hz : FL = 0
  · subst hz
    obtain ⟨AF, cF, rfl⟩ := Kd.R_slice hf
    rw [hFL]
    clear hf hE_ hk hb hFL
    go_wp2
    go_ret
    exact ⟨rfl, HB2.out⟩
  have hel : (endsOf blk rs).length = rs.length := by simp [endsOf]
  have hn0 : 0 < rs.length := by
    rcases Nat.eq_zero_or_pos rs.length with h | h
    · have := List.eq_nil_of_length_eq_zero h
      subst this
      exact absurd hFL.symm hz
    · exact h
  obtain ⟨gF, cF, rfl, gF0, gF1, _⟩ := Kd.R_form hf (by omega)
  obtain ⟨gE, cE, rfl, gE0, gE1, _⟩ := Kd.R_form hE_ (by omega)
  obtain ⟨gK, cK, rfl, gK0, gK1, _⟩ := Kd.R_form hk (by rw [HHL.out]; exact hn0)
  have HGE := Aside0.mk (own_block_ne (Kd.own_of_R hE_) (Kd.own_of_R hf) (by decide))
  have HGK := Aside0.mk (own_block_ne (Kd.own_of_R hk) (Kd.own_of_R hf) (by decide))
  have HGF := Aside0.mk (Nat.le_trans HB1S.out gF0)
  have HGF1 := Aside0.mk gF1
  have hCF := Kd.R_reads' hf
  have hCE := Kd.R_reads' hE_
  have hCK := Kd.R_reads' hk
  have HCFc := Aside0.mk hCF.2.1
  have HCF := Aside0.mk hCF.2.2
  have HCE := Aside0.mk hCE.2.2
  have HCK := Aside0.mk hCK.2.2
  rw [hFL] at HCF HCFc HFR ⊢
  rw [hel] at HCE HER ⊢
  rw [HHL.out] at HCK HKR ⊢
  have hnl := bulk_len rs
  have hnl2 : rs.length ≤ 1048576 := Nat.le_trans hnl HBK.out
  obtain ⟨n, hn⟩ : ∃ n, rs.length = n := ⟨_, rfl⟩
  have HN := Aside0.mk hn
  rw [hn] at hnl2 HCE HCK HKR HER hn0 ⊢
  obtain ⟨place, hpv, hpl⟩ := place_val x FL (by omega) (by omega)
  obtain ⟨j, hj⟩ : ∃ j, wholes blk rs place rs.length = j := ⟨_, rfl⟩
  obtain ⟨hj1, hj2, hj3⟩ := wholes_spec blk h1 rs place rs.length (Nat.le_refl _) (Or.inl rfl)
  rw [hj] at hj1 hj2 hj3
  have hjn : j < rs.length := by
    rcases hj3 with e | hj3
    · rw [e, List.take_length] at hj2; omega
    · rcases Nat.lt_or_ge j rs.length with h5 | h5
      · exact h5
      · have e5 : rs.take j = rs := List.take_of_length_le h5
        rw [e5] at hj2; omega
  have hj4 : place < (fileOf blk (rs.take (j + 1))).length := by rcases hj3 with e | hj3 <;> omega
  have HJ2 := Aside0.mk hj2
  have HJ4 := Aside0.mk hj4
  have HJN := Aside0.mk hjn
  have HEND := Aside0.mk (fun k (hk : k < n) => show rd (endsOf blk rs) (k : Int) = ((fileOf blk (rs.take (k + 1))).length : Int) by rw [rd_at _ _ (by simp [endsOf]; rw [HN.out]; exact hk)]; simp [endsOf])
  rw [hn] at hjn
  obtain ⟨e, he⟩ : ∃ e, walkF blk (fileOf blk rs) place (FL + 1) 0 = e := ⟨_, rfl⟩
  have HE := Aside0.mk he
  have hz1 : ((FL : Int) == 0) = false := by simp; omega
  have hblk0 : ((blk : Int) == 0) = false := by simp; omega
  have hFLn : ((FL : Int) == 0) = false := hz1
  clear hf hE_ hk hb hFL hCF hCE hCK hnl hel hn gF0 gF1 gE0 gE1 gK0 gK1 hj hj1 hj2 hj3 hj4 he
  go_wp2
  clear hpv
  go_loopw [13, 14] (fun v13 v14 wr => ∃ (a K : Nat), v13 = .int .i64 (a : Int) ∧ a ≤ FL + 70000 ∧ FL + 1 ≤ a + K ∧ Aside0 (walkF blk (fileOf blk rs) place K a = e) ∧ Aside0 (Below w2.heap.size w2 wr)) (fun v13 _ _ => FL + 1 - (intOf v13).toNat)
  case atStart => exact ⟨0, FL + 1, rfl, by omega, by omega, HE, ⟨Below.refl _ _⟩⟩
  case round =>
    obtain ⟨a, K, rfl, haK, hKK, HW, HB⟩ := hrel
    have hal : a ≤ 1099511627776 := by omega
    have hal7 : (a : Int) + 7 ≤ 1099511627776 := by omega
    by_cases hlt : a + 7 ≤ FL
    · have b1 : decide ((a : Int) + 7 ≤ (FL : Int)) = true := decide_eq_true (by omega)
      have b1' : decide (a + 7 ≤ FL) = true := decide_eq_true (by omega)
      obtain ⟨K, rfl⟩ : ∃ m, K = m + 1 := ⟨K - 1, by omega⟩
      have hwf := HW.out
      rw [walkF, if_neg (by rw [HFLE.out]; omega)] at hwf
      have hm := Nat.mod_lt a (show 0 < blk by omega)
      have hmod : (a : Int) % (blk : Int) = ((a % blk : Nat) : Int) := by omega
      have htm : (a : Int).tmod (blk : Int) = ((a % blk : Nat) : Int) := by rw [Int.tmod_eq_emod_of_nonneg (by omega)]; exact hmod
      obtain ⟨m, hmm⟩ : ∃ m, a % blk = m := ⟨_, rfl⟩
      rw [hmm] at hm hmod htm hwf
      clear hmm
      by_cases hjmp : blk - m < 7
      · have b2 : decide ((blk : Int) - (m : Int) < 7) = true := decide_eq_true (by omega)
        rw [if_pos hjmp] at hwf
        have HWN := Aside0.mk hwf
        have e1 : ((a + (blk - m) : Nat) : Int) = (a : Int) + (blk : Int) - (m : Int) := by omega
        clear hwf HW
        go_wp2
        go_roundw
        case rel => exact ⟨a + (blk - m), K, by rw [e1], by omega, by omega, HWN, HB⟩
        case measure => simp only [intOf]; omega
      · have b2 : decide ((blk : Int) - (m : Int) < 7) = false := decide_eq_false (by omega)
        rw [if_neg hjmp] at hwf
        have HWF := Aside0.mk hwf
        clear hwf HW
        go_wp2
        have hwf := HWF.out
        clear HWF
        have hFX := Kd.R_below HFR.out HB.out
        have q4' := (cell_byte hFX (a + 4) (by omega) HFB.out).1
        have q5' := (cell_byte hFX (a + 5) (by omega) HFB.out).1
        have x4l := (cell_byte hFX (a + 4) (by omega) HFB.out).2.2
        have x5l := (cell_byte hFX (a + 5) (by omega) HFB.out).2.2
        have hnn : nN (fileOf blk rs) a = rdn (fileOf blk rs) (a + 4) + 256 * rdn (fileOf blk rs) (a + 5) := rfl
        clear hFX
        generalize rdn (fileOf blk rs) (a + 4) = x4 at *
        generalize rdn (fileOf blk rs) (a + 5) = x5 at *
        obtain ⟨nn, hnn2⟩ : ∃ nn, nN (fileOf blk rs) a = nn := ⟨_, rfl⟩
        rw [hnn2] at hnn hwf
        have l4 : (a : Int) + 4 < (FL : Int) := by omega
        have l5 : (a : Int) + 5 < (FL : Int) := by omega
        have l4' : a + 4 < FL := by omega
        have l5' : a + 5 < FL := by omega
        have g4 : (0 : Int) ≤ (a : Int) + 4 := by omega
        have g5 : (0 : Int) ≤ (a : Int) + 5 := by omega
        have hnnb : nn < 65536 := by omega
        have en := en_val x4 x5 nn hnn
        have HNN := Aside0.mk hnn
        clear hnn hnn2
        by_cases hplc : place < a + (7 + nn)
        · have b3 : decide ((place : Int) < (a : Int) + (7 + (nn : Int))) = true := dlt_t _ _ _ hplc
          rw [if_pos hplc] at hwf
          subst hwf
          go_quiet (fail)
          clear en q4' q5' l4 l5 l4' l5' g4 g5 hmod htm hm hjmp b2 b1 b1' hal7 x4l x5l
          have hsum : (0 : Int) ≤ (a : Int) + (7 + (nn : Int)) ∧ (a : Int) + (7 + (nn : Int)) ≤ 1099511727776 := by omega
          have HBL := Aside0.mk (pw_below_drewN HB.out nq)
          obtain ⟨wr0, hwr0⟩ : ∃ W, wr.drewN nq = W := ⟨_, rfl⟩
          rw [hwr0] at HBL ⊢
          clear hwr0
          by_cases p4 : place = a + 4
          · have z1 : ((place : Int) == (a : Int) + 4) = true := by simp; omega
            go_wp2
            go_ret
            exact ⟨rfl, below_step HB2.out HBL.out⟩
          by_cases p5 : place = a + 5
          · have z1 : ((place : Int) == (a : Int) + 4) = false := by simp; omega
            have z2 : ((place : Int) == (a : Int) + 5) = true := by simp; omega
            go_wp2
            go_ret
            exact ⟨rfl, below_step HB2.out HBL.out⟩
          have z1 : ((place : Int) == (a : Int) + 4) = false := by simp; omega
          have z2 : ((place : Int) == (a : Int) + 5) = false := by simp; omega
          have hB3 := below_step HB2.out HBL.out
          have HFX := Aside0.mk (Kd.R_below HFR.out HBL.out)
          have qc := cell_byte HFX.out place hpl HFB.out
          obtain ⟨qc1, qc2, qc3⟩ := qc
          have hu := rdn_int (fileOf blk rs) place HFB.out
          have hgu : (fileOf blk rs).getD place 0 = ((rdn (fileOf blk rs) place : Nat) : Int) := by rw [← hu.1]; unfold rd; rw [Int.toNat_natCast]
          obtain ⟨u, hu2⟩ : ∃ u, rdn (fileOf blk rs) place = u := ⟨_, rfl⟩
          rw [hu2] at qc1 qc3 hgu
          have htb := turn_byte (u : Int) v (by omega) HVV.out HVV0.out
          obtain ⟨y, hy⟩ : ∃ y, bits .xor .u8 (u : Int) v = y := ⟨_, rfl⟩
          rw [hy] at htb
          have HRD := Aside0.mk (read_turned blk h1 h2 rs HBK.out HBY.out place y htb.1 (by rw [hgu]; exact htb.2) (FL + 1) a (by rw [HFLE.out]; exact Nat.le_refl _) HE.out p4 p5 j HJN.out HJ2.out HJ4.out)
          have hput : Kd.R (Kd.int .u8) 5 (wr0.setCell ⟨gF, place, none⟩ (.int .u8 y)) w1.heap.size (fun _ => True) (.slice (some ⟨gF, 0, none⟩) FL cF) ((fileOf blk rs).set place y) ∧ wr0.grownBy (wr0.setCell ⟨gF, place, none⟩ (.int .u8 y)) (some gF) := by
            have := Kd.R_putg HFX.out (place : Int) y
            rw [Int.toNat_natCast] at this
            exact this
          have HPUT := Aside0.mk hput
          have HKEP := Aside0.mk (Kept.of_grown hput.2 (Kept.refl wr0 (fun k => k = gF)) (fun k_ e_ => .inl (Option.some.inj e_).symm))
          have HB4 := Aside0.mk (hB3.grown hput.2 hB3.size (fun k_ e_ => (Option.some.inj e_) ▸ HGF.out))
          have HCE4 := Aside0.mk (C_other (Kd.C_below HCE.out HBL.out) HKEP.out HGE.out)
          have HCK4 := Aside0.mk (C_other (Kd.C_below HCK.out HBL.out) HKEP.out HGK.out)
          have HSL := Aside0.mk (show ((fileOf blk rs).set place y).length = FL by rw [List.length_set]; exact HFLE.out)
          have HYB := Aside0.mk (HFB.out.set place y htb.1.1 htb.1.2)
          obtain ⟨W4, hW4⟩ : ∃ W4, wr0.setCell ⟨gF, place, none⟩ (.int .u8 y) = W4 := ⟨_, rfl⟩
          rw [hW4] at HPUT HB4 HCE4 HCK4
          have HPR := Aside0.mk HPUT.out.1
          clear hput hu hgu hu2 htb hB3
          go_wp2_with (first | ((with_reducible refine gate_store (t := 5) (p := 115) rfl ?_); refine store_event (t := 5) (p := 115) (v := ?vo) (w1 := (wr0.setCell ⟨gF, place, none⟩ (.int .u8 (bits .xor .u8 (u : Int) v)))) ?hg ?ho ?hn ?hr ?_; (case ho => rfl); (case hg => rfl); (case hn => rfl); (case hr => first | (go_simp; done) | (go_simp; rfl)); intro w13 hw; rw [hy, hW4] at hw; subst hw))
          have HRC4 := Aside0.mk (show Kd.C (Kd.int .u8) w13 (some ⟨gF, 0, none⟩) ((fileOf blk rs).set place y).length ((fileOf blk rs).set place y) from (Kd.R_reads' HPR.out).2.2)
          rw [show #[Value.int .i64 (blk : Int), Value.slice (some ⟨gF, 0, none⟩) FL cF] = #[Value.int .i64 (blk : Int), Value.slice (some ⟨gF, 0, none⟩) ((fileOf blk rs).set place y).length cF] by rw [HSL.out]]
          (with_reducible refine (read_calls blk _ cF ((fileOf blk rs).set place y) _ _ 2 h1 h2 HRC4.out (by rw [HSL.out]; exact HCFc.out) HYB.out (by rw [HSL.out]; omega) (HT.out.below HB4.out) HRD.out).mono ?_)
          rintro e3 w3 ⟨v9, xs, rfl, hx, hv, hR, hb⟩
          have HB3 := Aside0.mk (below_step HB4.out hb)
          have HXL := Aside0.mk (outs_len hx)
          have HXD := Aside0.mk (fun i hi => outs_dat hx i hi)
          have HRC := Aside0.mk hR
          obtain ⟨A9, c9, rfl, hc9, hC9⟩ := Kd.R_reads hv
          have HX := Aside0.mk hC9
          have HK3 := Aside0.mk (Kd.C_below HCK4.out hb)
          have HCE3 := Aside0.mk (Kd.C_below HCE4.out hb)
          have HH3 := Aside0.mk (HH.out.below HB3.out)
          rw [List.length_map, HXL.out] at HX hc9 ⊢
          generalize endY xs = EY at *
          rw [show ((2 : Nat) : Int) = 2 from rfl]
          clear hx hv hR hb hC9 z1 z2 p4 p5 hW4 hy qc1 qc2
          go_wp2
          go_loopw [19, 20] (fun v19 v20 wr => ∃ (k : Nat), v19 = .int .i64 (k : Int) ∧ v20 = .int .i64 (k : Int) ∧ k ≤ j ∧ Aside0 (Below w3.heap.size w3 wr)) (fun _ v20 _ => j - (intOf v20).toNat)
          case atStart => exact ⟨0, rfl, rfl, by omega, ⟨Below.refl _ _⟩⟩
          case round =>
            obtain ⟨k, rfl, rfl, hkj, HB⟩ := hrel
            have hkn2 : k < n := by omega
            have c1 : decide ((k : Int) < (n : Int)) = true := decide_eq_true (by omega)
            obtain ⟨adE, eE, qE⟩ := Kd.at_int (Kd.C_below HCE3.out HB.out) (k : Int) (by omega) (by omega)
            cases eE
            rw [HEND.out k hkn2, Int.toNat_natCast, add_zero_at] at qE
            by_cases hlt : k < j
            · have hle := Nat.le_trans (whole_end blk h1 rs k j hlt (Nat.le_of_lt HJN.out)) HJ2.out
              obtain ⟨LE, hLE⟩ : ∃ LE, (fileOf blk (rs.take (k + 1))).length = LE := ⟨_, rfl⟩
              rw [hLE] at qE hle
              have c2 : decide ((LE : Int) ≤ (place : Int)) = true := decide_eq_true (by omega)
              have c3 : decide (LE ≤ place) = true := decide_eq_true hle
              clear hLE
              go_wp2
              go_roundw
              case rel => exact ⟨k + 1, by go_num, by go_num, by omega, HB⟩
              case measure => simp only [intOf]; omega
            · obtain rfl : j = k := by omega
              have hgt := HJ4.out
              obtain ⟨LE, hLE⟩ : ∃ LE, (fileOf blk (rs.take (j + 1))).length = LE := ⟨_, rfl⟩
              rw [hLE] at qE hgt
              have c2 : decide ((LE : Int) ≤ (place : Int)) = false := decide_eq_false (by omega)
              have c3 : decide (LE ≤ place) = false := decide_eq_false (by omega)
              have c5 : ((j : Int) != (j : Int)) = false := by simp
              have HBL2 := HB
              clear hLE
              go_wp2
              go_loopw [21] (fun v21 wr => ∃ (k : Nat), v21 = .int .i64 (k : Int) ∧ k ≤ j ∧ Aside0 (Below w3.heap.size w3 wr)) (fun v21 _ => j - (intOf v21).toNat)
              case atStart => exact ⟨0, rfl, by omega, HBL2⟩
              case round =>
                obtain ⟨k, rfl, hkn, HB⟩ := hrel
                by_cases hlt : k < j
                · have b1 : decide ((k : Int) < (j : Int)) = true := decide_eq_true (by omega)
                  have hkx : k < xs.length := by rw [HXL.out]; exact hlt
                  have hkr : k < rs.length := by rw [HN.out]; omega
                  obtain ⟨ad9, e9, q9⟩ := hd_at (Kd.C_below HX.out HB.out) k hlt
                  obtain ⟨ad7, e7, q7⟩ := hd_at (Kd.C_below HK3.out HB.out) k (by omega)
                  cases e9
                  cases e7
                  rw [add_zero_at] at q7
                  have hcv1 := fun (j : Nat) => rec_text HRC.out (W := wr.drewN j) (pw_below_drewN HB.out _) k hkx
                  have hcv2 := fun (j : Nat) => head_text HH3.out (W := wr.drewN j) (pw_below_drewN HB.out _) k hkr
                  have hcv1' := rec_text HRC.out (W := wr) HB.out k hkx
                  have hcv2' := head_text HH3.out (W := wr) HB.out k hkr
                  rw [HXD.out k hlt] at hcv1 hcv1'
                  obtain ⟨y1, hy1⟩ : ∃ y, hdr (xs.map hdY) k = y := ⟨_, rfl⟩
                  obtain ⟨y2, hy2⟩ : ∃ y, hdr hs k = y := ⟨_, rfl⟩
                  rw [hy1] at q9 hcv1 hcv1'
                  rw [hy2] at q7 hcv2 hcv2'
                  obtain ⟨y1a, y1n, y1c⟩ := y1
                  obtain ⟨y2a, y2n, y2c⟩ := y2
                  generalize strOfNums (rec rs k) = T at *
                  dsimp only at *
                  clear hy1 hy2
                  go_wp2
                  go_quiet (fail)
                  all_goals go_wp2
                  go_roundw
                  case rel => exact ⟨k + 1, by go_num, by omega, ⟨pw_below_drewN HB.out _⟩⟩
                  case measure => simp only [intOf]; omega
                · obtain rfl : k = j := by omega
                  have b1 : decide ((k : Int) < (k : Int)) = false := decide_eq_false (by omega)
                  go_wp2
                  go_ret
                  exact ⟨by simp, below_step HB3.out HB.out⟩
        · have b3 : decide ((place : Int) < (a : Int) + (7 + (nn : Int))) = false := dlt_f _ _ _ hplc
          rw [if_neg hplc] at hwf
          have HWN := Aside0.mk hwf
          clear hwf
          go_quiet (fail)
          clear en q4' q5' l4 l5 l4' l5' g4 g5 hmod htm hm hjmp b2 b1 b1' hal7 x4l x5l
          have hsum : (0 : Int) ≤ (a : Int) + (7 + (nn : Int)) ∧ (a : Int) + (7 + (nn : Int)) ≤ 1099511727776 := by omega
          go_wp2
          go_roundw
          case rel => exact ⟨a + (7 + nn), K, by go_num, by omega, by omega, HWN, ⟨pw_below_drewN HB.out _⟩⟩
          case measure => simp only [intOf]; omega
    · have b1 : decide ((a : Int) + 7 ≤ (FL : Int)) = false := decide_eq_false (by omega)
      have b1' : decide (a + 7 ≤ FL) = false := decide_eq_false (by omega)
      have hae : a = e := by
        have hwf := HW.out
        cases K with
        | zero => exact hwf
        | succ K => rw [walkF, if_pos (by rw [HFLE.out]; omega)] at hwf; exact hwf
      subst hae
      have HBL := HB
      obtain ⟨wr0, hwr0⟩ : ∃ W, wr = W := ⟨_, rfl⟩
      rw [hwr0] at HBL ⊢
      clear hwr0
      by_cases p4 : place = a + 4
      · have z1 : ((place : Int) == (a : Int) + 4) = true := by simp; omega
        go_wp2
        go_ret
        exact ⟨rfl, below_step HB2.out HBL.out⟩
      by_cases p5 : place = a + 5
      · have z1 : ((place : Int) == (a : Int) + 4) = false := by simp; omega
        have z2 : ((place : Int) == (a : Int) + 5) = true := by simp; omega
        go_wp2
        go_ret
        exact ⟨rfl, below_step HB2.out HBL.out⟩
      have z1 : ((place : Int) == (a : Int) + 4) = false := by simp; omega
      have z2 : ((place : Int) == (a : Int) + 5) = false := by simp; omega
      have hB3 := below_step HB2.out HBL.out
      have HFX := Aside0.mk (Kd.R_below HFR.out HBL.out)
      have qc := cell_byte HFX.out place hpl HFB.out
      obtain ⟨qc1, qc2, qc3⟩ := qc
      have hu := rdn_int (fileOf blk rs) place HFB.out
      have hgu : (fileOf blk rs).getD place 0 = ((rdn (fileOf blk rs) place : Nat) : Int) := by rw [← hu.1]; unfold rd; rw [Int.toNat_natCast]
      obtain ⟨u, hu2⟩ : ∃ u, rdn (fileOf blk rs) place = u := ⟨_, rfl⟩
      rw [hu2] at qc1 qc3 hgu
      have htb := turn_byte (u : Int) v (by omega) HVV.out HVV0.out
      obtain ⟨y, hy⟩ : ∃ y, bits .xor .u8 (u : Int) v = y := ⟨_, rfl⟩
      rw [hy] at htb
      have HRD := Aside0.mk (read_turned blk h1 h2 rs HBK.out HBY.out place y htb.1 (by rw [hgu]; exact htb.2) (FL + 1) a (by rw [HFLE.out]; exact Nat.le_refl _) HE.out p4 p5 j HJN.out HJ2.out HJ4.out)
      have hput : Kd.R (Kd.int .u8) 5 (wr0.setCell ⟨gF, place, none⟩ (.int .u8 y)) w1.heap.size (fun _ => True) (.slice (some ⟨gF, 0, none⟩) FL cF) ((fileOf blk rs).set place y) ∧ wr0.grownBy (wr0.setCell ⟨gF, place, none⟩ (.int .u8 y)) (some gF) := by
        have := Kd.R_putg HFX.out (place : Int) y
        rw [Int.toNat_natCast] at this
        exact this
      have HPUT := Aside0.mk hput
      have HKEP := Aside0.mk (Kept.of_grown hput.2 (Kept.refl wr0 (fun k => k = gF)) (fun k_ e_ => .inl (Option.some.inj e_).symm))
      have HB4 := Aside0.mk (hB3.grown hput.2 hB3.size (fun k_ e_ => (Option.some.inj e_) ▸ HGF.out))
      have HCE4 := Aside0.mk (C_other (Kd.C_below HCE.out HBL.out) HKEP.out HGE.out)
      have HCK4 := Aside0.mk (C_other (Kd.C_below HCK.out HBL.out) HKEP.out HGK.out)
      have HSL := Aside0.mk (show ((fileOf blk rs).set place y).length = FL by rw [List.length_set]; exact HFLE.out)
      have HYB := Aside0.mk (HFB.out.set place y htb.1.1 htb.1.2)
      obtain ⟨W4, hW4⟩ : ∃ W4, wr0.setCell ⟨gF, place, none⟩ (.int .u8 y) = W4 := ⟨_, rfl⟩
      rw [hW4] at HPUT HB4 HCE4 HCK4
      have HPR := Aside0.mk HPUT.out.1
      clear hput hu hgu hu2 htb hB3
      go_wp2_with (first | ((with_reducible refine gate_store (t := 5) (p := 115) rfl ?_); refine store_event (t := 5) (p := 115) (v := ?vo) (w1 := (wr0.setCell ⟨gF, place, none⟩ (.int .u8 (bits .xor .u8 (u : Int) v)))) ?hg ?ho ?hn ?hr ?_; (case ho => rfl); (case hg => rfl); (case hn => rfl); (case hr => first | (go_simp; done) | (go_simp; rfl)); intro w13 hw; rw [hy, hW4] at hw; subst hw))
      have HRC4 := Aside0.mk (show Kd.C (Kd.int .u8) w13 (some ⟨gF, 0, none⟩) ((fileOf blk rs).set place y).length ((fileOf blk rs).set place y) from (Kd.R_reads' HPR.out).2.2)
      rw [show #[Value.int .i64 (blk : Int), Value.slice (some ⟨gF, 0, none⟩) FL cF] = #[Value.int .i64 (blk : Int), Value.slice (some ⟨gF, 0, none⟩) ((fileOf blk rs).set place y).length cF] by rw [HSL.out]]
      (with_reducible refine (read_calls blk _ cF ((fileOf blk rs).set place y) _ _ 2 h1 h2 HRC4.out (by rw [HSL.out]; exact HCFc.out) HYB.out (by rw [HSL.out]; omega) (HT.out.below HB4.out) HRD.out).mono ?_)
      rintro e3 w3 ⟨v9, xs, rfl, hx, hv, hR, hb⟩
      have HB3 := Aside0.mk (below_step HB4.out hb)
      have HXL := Aside0.mk (outs_len hx)
      have HXD := Aside0.mk (fun i hi => outs_dat hx i hi)
      have HRC := Aside0.mk hR
      obtain ⟨A9, c9, rfl, hc9, hC9⟩ := Kd.R_reads hv
      have HX := Aside0.mk hC9
      have HK3 := Aside0.mk (Kd.C_below HCK4.out hb)
      have HCE3 := Aside0.mk (Kd.C_below HCE4.out hb)
      have HH3 := Aside0.mk (HH.out.below HB3.out)
      rw [List.length_map, HXL.out] at HX hc9 ⊢
      generalize endY xs = EY at *
      rw [show ((2 : Nat) : Int) = 2 from rfl]
      clear hx hv hR hb hC9 z1 z2 p4 p5 hW4 hy qc1 qc2
      go_wp2
      go_loopw [19, 20] (fun v19 v20 wr => ∃ (k : Nat), v19 = .int .i64 (k : Int) ∧ v20 = .int .i64 (k : Int) ∧ k ≤ j ∧ Aside0 (Below w3.heap.size w3 wr)) (fun _ v20 _ => j - (intOf v20).toNat)
      case atStart => exact ⟨0, rfl, rfl, by omega, ⟨Below.refl _ _⟩⟩
      case round =>
        obtain ⟨k, rfl, rfl, hkj, HB⟩ := hrel
        have hkn2 : k < n := by omega
        have c1 : decide ((k : Int) < (n : Int)) = true := decide_eq_true (by omega)
        obtain ⟨adE, eE, qE⟩ := Kd.at_int (Kd.C_below HCE3.out HB.out) (k : Int) (by omega) (by omega)
        cases eE
        rw [HEND.out k hkn2, Int.toNat_natCast, add_zero_at] at qE
        by_cases hlt : k < j
        · have hle := Nat.le_trans (whole_end blk h1 rs k j hlt (Nat.le_of_lt HJN.out)) HJ2.out
          obtain ⟨LE, hLE⟩ : ∃ LE, (fileOf blk (rs.take (k + 1))).length = LE := ⟨_, rfl⟩
          rw [hLE] at qE hle
          have c2 : decide ((LE : Int) ≤ (place : Int)) = true := decide_eq_true (by omega)
          have c3 : decide (LE ≤ place) = true := decide_eq_true hle
          clear hLE
          go_wp2
          go_roundw
          case rel => exact ⟨k + 1, by go_num, by go_num, by omega, HB⟩
          case measure => simp only [intOf]; omega
        · obtain rfl : j = k := by omega
          have hgt := HJ4.out
          obtain ⟨LE, hLE⟩ : ∃ LE, (fileOf blk (rs.take (j + 1))).length = LE := ⟨_, rfl⟩
          rw [hLE] at qE hgt
          have c2 : decide ((LE : Int) ≤ (place : Int)) = false := decide_eq_false (by omega)
          have c3 : decide (LE ≤ place) = false := decide_eq_false (by omega)
          have c5 : ((j : Int) != (j : Int)) = false := by simp
          have HBL2 := HB
          clear hLE
          go_wp2
          go_loopw [21] (fun v21 wr => ∃ (k : Nat), v21 = .int .i64 (k : Int) ∧ k ≤ j ∧ Aside0 (Below w3.heap.size w3 wr)) (fun v21 _ => j - (intOf v21).toNat)
          case atStart => exact ⟨0, rfl, by omega, HBL2⟩
          case round =>
            obtain ⟨k, rfl, hkn, HB⟩ := hrel
            by_cases hlt : k < j
            · have b1 : decide ((k : Int) < (j : Int)) = true := decide_eq_true (by omega)
              have hkx : k < xs.length := by rw [HXL.out]; exact hlt
              have hkr : k < rs.length := by rw [HN.out]; omega
              obtain ⟨ad9, e9, q9⟩ := hd_at (Kd.C_below HX.out HB.out) k hlt
              obtain ⟨ad7, e7, q7⟩ := hd_at (Kd.C_below HK3.out HB.out) k (by omega)
              cases e9
              cases e7
              rw [add_zero_at] at q7
              have hcv1 := fun (j : Nat) => rec_text HRC.out (W := wr.drewN j) (pw_below_drewN HB.out _) k hkx
              have hcv2 := fun (j : Nat) => head_text HH3.out (W := wr.drewN j) (pw_below_drewN HB.out _) k hkr
              have hcv1' := rec_text HRC.out (W := wr) HB.out k hkx
              have hcv2' := head_text HH3.out (W := wr) HB.out k hkr
              rw [HXD.out k hlt] at hcv1 hcv1'
              obtain ⟨y1, hy1⟩ : ∃ y, hdr (xs.map hdY) k = y := ⟨_, rfl⟩
              obtain ⟨y2, hy2⟩ : ∃ y, hdr hs k = y := ⟨_, rfl⟩
              rw [hy1] at q9 hcv1 hcv1'
              rw [hy2] at q7 hcv2 hcv2'
              obtain ⟨y1a, y1n, y1c⟩ := y1
              obtain ⟨y2a, y2n, y2c⟩ := y2
              generalize strOfNums (rec rs k) = T at *
              dsimp only at *
              clear hy1 hy2
              go_wp2
              go_quiet (fail)
              all_goals go_wp2
              go_roundw
              case rel => exact ⟨k + 1, by go_num, by omega, ⟨pw_below_drewN HB.out _⟩⟩
              case measure => simp only [intOf]; omega
            · obtain rfl : k = j := by omega
              have b1 : decide ((k : Int) < (k : Int)) = false := decide_eq_false (by omega)
              go_wp2
              go_ret
              exact ⟨by simp, below_step HB3.out HB.out⟩
theorem open_turn {w : World} {cs : Array Value} {x v : Int} (h : (Kd.pair (Kd.int .i64) (Kd.int .u8)).K w (x, v) cs.toList) : cs = #[.int .i64 x, .int .u8 v] := by
  obtain ⟨c1, c2, e, h1, h2⟩ := h
  have e1 : c1 = [.int .i64 x] := h1
  have e2 : c2 = [.int .u8 v] := h2
  subst e1
  subst e2
  apply Array.toList_inj.1
  simpa using e
set_option maxHeartbeats 4000000 in
set_option maxRecDepth 100000 in
theorem JournalTurned_upto (w : World) (x0 : Int) (hg0 : (Lit.int .i64 x0).wf = true) (A1 : Option Addr) (c1 : Nat) (l1 : List (List Int)) (hc1 : l1.length ≤ c1) (hr1 : Kd.C (Kd.slice 5 (Kd.int .u8)) w A1 l1.length l1) (hg1 : ∀ x ∈ l1, ∀ y ∈ x, (Lit.int .u8 y).wf = true) (cs2 : Array Value) (x2 : Int × Int) (hK2 : (Kd.pair (Kd.int .i64) (Kd.int .u8)).K w x2 cs2.toList) (hg2 : (Lit.int .i64 x2.1).wf = true ∧ (Lit.int .u8 x2.2).wf = true)
    (hbulk : sumBulk (fun l : List Int => sumBulk (fun _ : Int => 1) l + 1) l1 + 1 ≤ 1048576) (hTab : TabAt w) :
    Calls Tryd.prog 9 #[.int .i64 x0, .slice A1 l1.length c1, .agg cs2] w fun e w' => e = .returned (.bool true) ∧ Below w.heap.size w w' := by
  obtain ⟨x, v⟩ := x2
  have hcs := open_turn hK2
  subst hcs
  have hvb : 0 ≤ v ∧ v < 256 := by
    have : 0 ≤ v ∧ v ≤ 255 := by simpa [Lit.wf, IntKind.min, IntKind.max, IntKind.signed, IntKind.bits] using hg2.2
    omega
  by_cases hv : 32 ≤ x0 ∧ x0 ≤ 32768
  · by_cases hv0 : v = 0
    · subst hv0
      have HV := Aside0.mk (fun W => morainelaw07_valid.calls x0 true W (by unfold morainelaw07_valid.f; rw [if_pos (by omega)]; simp; omega))
      have HAL := Aside0.mk (below_alloc (Below.refl w.heap.size w) (.cells #[.int .i64 x, .int .u8 0] 64))
      clear hr1 hTab hbulk hg1 hg0 hg2 hK2 hv hvb
      go_enter Tryd.func9, Tryd.ntmps9
      go_wp2
      go_quiet (fail)
      all_goals go_wp2_with fail
      (with_reducible refine (HV.out _).mono ?_)
      rintro e w1 ⟨rfl, hd⟩
      have HB1 := Aside0.mk (below_step (pw_below_drewN HAL.out _) hd.below)
      clear hd
      go_wp2
      go_ret
      exact ⟨rfl, HB1.out⟩
    · obtain ⟨blk, rfl⟩ := Int.eq_ofNat_of_zero_le (show 0 ≤ x0 by omega)
      obtain ⟨hs, hH, hC⟩ := heads_of hr1
      exact turned_calls blk A1 c1 l1 hs x v w (by omega) (by omega) hH hC hc1 (byt_recs hg1) (by rw [bulk_of]; omega) hvb hv0 hTab
  · have HV := Aside0.mk (fun W => morainelaw07_valid.calls x0 false W (by unfold morainelaw07_valid.f; split <;> simp <;> omega))
    have HAL := Aside0.mk (below_alloc (Below.refl w.heap.size w) (.cells #[.int .i64 x, .int .u8 v] 64))
    clear hr1 hTab hbulk hg1 hg0 hg2 hK2 hv hvb
    go_enter Tryd.func9, Tryd.ntmps9
    go_wp2
    go_quiet (fail)
    all_goals go_wp2_with fail
    (with_reducible refine (HV.out _).mono ?_)
    rintro e w1 ⟨rfl, hd⟩
    have HB1 := Aside0.mk (below_step (pw_below_drewN HAL.out _) hd.below)
    clear hd
    go_wp2
    go_ret
    exact ⟨rfl, HB1.out⟩

end Go.Proofs.YtmpkigambfghgaaDoor.G
