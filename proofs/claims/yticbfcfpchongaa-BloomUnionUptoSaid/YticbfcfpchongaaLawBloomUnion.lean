/- Contracts typed by hand: BloomUnion holds of every input within the form's reach -/
import Derived.Test.YticbfcfpchongaaProg
import Derived.Below
import Derived.Deep.Draws
import Derived.Deep.AppendLies
import Derived.Maps.AppendAt
import Derived.OwnWalk
import Derived.Laws.BytesArg
import Derived.Laws.MakeOwn
import Derived.Laws.OwnMore
import Derived.Deep.OwnRows
import Derived.Tactics
import Derived.Lib.ConvBytes
import Derived.Laws.Slices
import Derived.WalkKit
import Derived.KernelRfl
import Derived.RowKit3
import Derived.Deep.LoopGhost
import Derived.Deep.QuietTactic
import Derived.BigQuiet
import Derived.WideLaws
import Derived.Deep.DeepCutAuto
import Derived.Deep.CutBlock
import Derived.Deep.RegionHeld3
import Derived.Laws.Rows
import Derived.Lib.AppendStr
import Derived.ArgAppend
import Derived.Laws.IdiomCopy
import Derived.OrdersHeld
import Derived.Laws.BitsLemmas
import Derived.RowKit
import Derived.Test.YticbfcfpchongaaWWords
import Derived.Test.YticbfcfpchongaaWLast
import Derived.Test.YticbfcfpchongaaWTab
import Derived.Test.YticbfcfpchongaaWFour
import Derived.Test.YticbfcfpchongaaWQPut
import Derived.Test.YticbfcfpchongaaWApart
import Derived.Test.YticbfcfpchongaaWArr
import Derived.Test.YticbfcfpchongaaWZeros
import Derived.Test.YticbfcfpchongaaWFoot
import Derived.Test.YticbfcfpchongaaWKept
import Derived.Test.YticbfcfpchongaaWShare
import Derived.Test.YticbfcfpchongaaWN
import Derived.Test.YticbfcfpchongaaWFootNe
import Derived.Test.YticbfcfpchongaaWAt
import Derived.Test.YticbfcfpchongaaWEqStruct
import Derived.Test.YticbfcfpchongaaWRepsOne
import Derived.Test.YticbfcfpchongaaWInv
import Derived.Test.YticbfcfpchongaaWInvWords
import Derived.Test.YticbfcfpchongaaWGuard
import Derived.Test.YticbfcfpchongaaWNEv
import Derived.Test.YticbfcfpchongaaWMore
import Derived.Test.YticbfcfpchongaaLawBloomOrder
import Derived.Test.YticbfcfpchongaaGx22
namespace Go.Proofs.Yticbfcfpchongaa.G
open Go.RowKit Go.Proofs.YticbfcfpchongaaW.PrintWords Go.Proofs.YticbfcfpchongaaW.PrintLast Go.Proofs.YticbfcfpchongaaW.PrintMore
attribute [local go_sem] max2_int min2_int max_two min_two max_three min_three max_four min_four
set_option linter.unusedVariables false
set_option linter.unusedSimpArgs false

/-! BloomUnion holds of every input within the form's reach -/
def bor (x y : Int) : Int := bits .or .u8 x y
theorem bor_nat (x y : Int) (h0 : 0 ≤ x) (h1 : x < 256) (g0 : 0 ≤ y) (g1 : y < 256) : bor x y = ((x.toNat ||| y.toNat : Nat) : Int) := u8_or x y h0 h1 g0 g1
theorem bor_rng (x y : Int) (h0 : 0 ≤ x) (h1 : x < 256) (g0 : 0 ≤ y) (g1 : y < 256) : 0 ≤ bor x y ∧ bor x y < 256 := by
  rw [bor_nat x y h0 h1 g0 g1]
  have := Nat.or_lt_two_pow (n := 8) (show x.toNat < 2 ^ 8 by omega) (show y.toNat < 2 ^ 8 by omega)
  omega
theorem getv_bor (x y c : Int) (h0 : 0 ≤ x) (h1 : x < 256) (g0 : 0 ≤ y) (g1 : y < 256) : getv (bor x y) c = (getv x c || getv y c) := by
  have r := bor_rng x y h0 h1 g0 g1
  rw [getv_test _ _ r.1 r.2, getv_test _ _ h0 h1, getv_test _ _ g0 g1, bor_nat x y h0 h1 g0 g1, Int.toNat_natCast, Nat.testBit_or]
structure Cyc (l acc : List ByteArray) (i : Nat) : Prop where
  len : acc.length = i
  sub : ∀ x ∈ acc, x ∈ l
  all : ∀ j : Nat, j < i → j < l.length → rdOf ByteArray.empty l (j : Int) ∈ acc
theorem Cyc.step {l acc : List ByteArray} {i : Nat} (h : Cyc l acc i) (hl : 0 < l.length) : Cyc l (acc ++ [rdOf ByteArray.empty l ((i : Int) % (l.length : Int))]) (i + 1) where
  len := by rw [List.length_append, h.len]; rfl
  sub := by
    intro x hx
    rcases List.mem_append.1 hx with hx | hx
    · exact h.sub x hx
    · rw [List.mem_singleton.1 hx]
      exact rdOf_mem l _ (Int.emod_nonneg _ (by omega)) (Int.emod_lt_of_pos _ (by omega))
  all := by
    intro j hj hjl
    by_cases e : j = i
    · subst e
      rw [Int.emod_eq_of_lt (by omega) (by omega)]
      exact List.mem_append.2 (Or.inr (List.mem_singleton.2 rfl))
    · exact List.mem_append.2 (Or.inl (h.all j (by omega) hjl))
theorem Cyc.mem {l acc : List ByteArray} {i : Nat} (h : Cyc l acc i) (hi : l.length ≤ i) (x : ByteArray) : x ∈ acc ↔ x ∈ l := by
  refine ⟨h.sub x, fun hx => ?_⟩
  obtain ⟨m, hm, rfl⟩ := List.getElem_of_mem hx
  have := h.all m (by omega) hm
  unfold rdOf at this
  rw [Int.toNat_natCast, List.getD_eq_getElem?_getD, List.getElem?_eq_getElem hm] at this
  exact this
theorem union_step (x0 x1 x8 x9 : List ByteArray) (a : Int) (n i k : Nat) (hi : i < n) (hn : n ≤ 1048576) (h0 : 0 < x0.length) (h1 : 0 < x1.length) (h8 : x8.length ≤ 1048576) (h9 : x9.length ≤ 1048576) :
    morainelaw12_BloomUnion.l0 (k + 1) x0 x1 a (n : Int) x8 x9 (i : Int) = morainelaw12_BloomUnion.l0 k x0 x1 a (n : Int) (x8 ++ [rdOf ByteArray.empty x0 ((i : Int) % (x0.length : Int))]) (x9 ++ [rdOf ByteArray.empty x1 ((i : Int) % (x1.length : Int))]) ((i + 1 : Nat) : Int) := by
  have m0 : 0 ≤ (i : Int) % (x0.length : Int) := Int.emod_nonneg _ (by omega)
  have m1 : (i : Int) % (x0.length : Int) < x0.length := Int.emod_lt_of_pos _ (by omega)
  have n0 : 0 ≤ (i : Int) % (x1.length : Int) := Int.emod_nonneg _ (by omega)
  have n1 : (i : Int) % (x1.length : Int) < x1.length := Int.emod_lt_of_pos _ (by omega)
  have c0 : (i : Int) < (n : Int) := by omega
  have c1 : ¬ (x0.length : Int) = 0 := by omega
  have c2 : ¬ (x1.length : Int) = 0 := by omega
  have c3 : x8.length < 8796093022208 := by omega
  have c4 : x9.length < 8796093022208 := by omega
  have e0 : Int.tmod (i : Int) (x0.length : Int) = (i : Int) % (x0.length : Int) := Int.tmod_eq_emod_of_nonneg (by omega)
  have e1 : Int.tmod (i : Int) (x1.length : Int) = (i : Int) % (x1.length : Int) := Int.tmod_eq_emod_of_nonneg (by omega)
  have e5 : wrap64 ((i : Int) + 1) = ((i + 1 : Nat) : Int) := (wr _ (by omega) (by omega)).trans (by omega)
  rw [morainelaw12_BloomUnion.l0, if_pos c0, if_neg c1, e0, if_pos m0, if_pos m1, if_pos c3, if_neg c2, e1, if_pos n0, if_pos n1, if_pos c4, e5]
theorem union_loop (x0 x1 : List ByteArray) (a : Int) (n : Nat) (hn : n ≤ 1048576) (h0 : 0 < x0.length) (h1 : 0 < x1.length) : ∀ (d i k : Nat) (x8 x9 : List ByteArray), i + d = n → Cyc x0 x8 i → Cyc x1 x9 i →
    ∃ X Y, Cyc x0 X n ∧ Cyc x1 Y n ∧ morainelaw12_BloomUnion.l0 (k + d + 1) x0 x1 a (n : Int) x8 x9 (i : Int) = morainelaw12_BloomUnion.l0 (k + 1) x0 x1 a (n : Int) X Y (n : Int)
  | 0, i, k, x8, x9, hi, hx, hy => by
    obtain rfl : i = n := by omega
    exact ⟨x8, x9, hx, hy, rfl⟩
  | d + 1, i, k, x8, x9, hi, hx, hy => by
    have step := union_step x0 x1 x8 x9 a n i (k + d + 1) (by omega) hn h0 h1 (by have := hx.len; omega) (by have := hy.len; omega)
    obtain ⟨X, Y, hX, hY, h⟩ := union_loop x0 x1 a n hn h0 h1 d (i + 1) k _ _ (by omega) (hx.step h0) (hy.step h1)
    exact ⟨X, Y, hX, hY, step.trans h⟩
theorem union_end (p q r : List Int) (B : Nat) (hB : B ≤ 8388609) (hp : p.length = B + 1) (hq : q.length = B + 1) (hr : r.length = B + 1) (h : ∀ i : Nat, i < B → bor (rd p i) (rd q i) = rd r i) (hl : rd p B = rd r B) : ∀ (d i k : Nat), i + d = B → morainelaw12_BloomUnion.l1 (k + d + 1) p q r (i : Int) = some true
  | 0, i, k, hi => by
    obtain rfl : i = B := by omega
    have e1 : wrap64 ((r.length : Int) - 1) = (i : Int) := (wr _ (by omega) (by omega)).trans (by omega)
    have e2 : wrap64 ((p.length : Int) - 1) = (i : Int) := (wr _ (by omega) (by omega)).trans (by omega)
    have c0 : ¬ (i : Int) < (i : Int) := by omega
    have c1 : 0 ≤ (i : Int) := by omega
    have c2 : (i : Int) < (p.length : Int) := by omega
    have c3 : (i : Int) < (r.length : Int) := by omega
    rw [morainelaw12_BloomUnion.l1, e1, e2, if_neg c0, if_pos c1, if_pos c2, if_pos c1, if_pos c3, hl]
    simp
  | d + 1, i, k, hi => by
    have e1 : wrap64 ((r.length : Int) - 1) = (B : Int) := (wr _ (by omega) (by omega)).trans (by omega)
    have e5 : wrap64 ((i : Int) + 1) = ((i + 1 : Nat) : Int) := (wr _ (by omega) (by omega)).trans (by omega)
    have c0 : (i : Int) < (B : Int) := by omega
    have c1 : 0 ≤ (i : Int) := by omega
    have c2 : (i : Int) < (p.length : Int) := by omega
    have c3 : (i : Int) < (q.length : Int) := by omega
    have c4 : (i : Int) < (r.length : Int) := by omega
    have hh := h i (by omega)
    unfold bor at hh
    rw [show k + (d + 1) + 1 = (k + d + 1) + 1 by omega, morainelaw12_BloomUnion.l1, e1, if_pos c0, if_pos c1, if_pos c2, if_pos c3, if_pos c4, if_pos hh, e5]
    exact union_end p q r B hB hp hq hr h hl d (i + 1) k (by omega)
theorem bitAt_at (f : List Int) (i j : Nat) (hj : j < 8) : bitAt f (8 * (i : Int) + j) = getv (rd f i) (j : Int) := by
  unfold bitAt
  rw [show (8 * (i : Int) + j) / 8 = (i : Int) by omega]
  unfold getv
  rw [show (8 * (i : Int) + (j : Int)) % 8 = (j : Int) % 8 by omega]
theorem union_filt (X Y R : List ByteArray) (a : Int) (ha : 1 ≤ a ∧ a ≤ 64) (n : Nat) (hn : n ≤ 1048576) (hX : X.length = n) (hY : Y.length = n) (hR : R.length = n) (hm : ∀ x, x ∈ R ↔ x ∈ X ∨ x ∈ Y) :
    ∃ B : Nat, 8 ≤ B ∧ B ≤ 8388609 ∧ (filt X a).length = B + 1 ∧ (filt Y a).length = B + 1 ∧ (filt R a).length = B + 1 ∧ (∀ i : Nat, i < B → bor (rd (filt X a) i) (rd (filt Y a) i) = rd (filt R a) i) ∧ rd (filt X a) B = rd (filt R a) B := by
  obtain ⟨B, hB, b0, b1, p1, p2, p3, p4⟩ := filt_all X a ha (by omega)
  obtain ⟨B1, hB1, _, _, q1, q2, q3, q4⟩ := filt_all Y a ha (by omega)
  obtain ⟨B2, hB2, _, _, r1, r2, r3, r4⟩ := filt_all R a ha (by omega)
  rw [hX] at hB
  rw [hY, hB] at hB1
  rw [hR, hB] at hB2
  have e1 : B1 = B := by omega
  have e2 : B2 = B := by omega
  subst e1
  subst e2
  refine ⟨B2, b0, b1, p1, q1, r1, fun i hi => ?_, by rw [p3, r3]⟩
  have x := rd_rng p2 (i : Int)
  have y := rd_rng q2 (i : Int)
  have z := rd_rng r2 (i : Int)
  have w := bor_rng _ _ x.1 x.2 y.1 y.2
  refine getv_ext _ _ w.1 w.2 z.1 z.2 fun j hj => ?_
  have c0 : 0 ≤ 8 * (i : Int) + j := by omega
  have c1 : 8 * (i : Int) + j < 8 * (B2 : Int) := by omega
  have hp := p4 _ c0 c1
  have hq := q4 _ c0 c1
  have hr := r4 _ c0 c1
  rw [bitAt_at _ i j hj] at hp hq hr
  rw [getv_bor _ _ _ x.1 x.2 y.1 y.2, Bool.eq_iff_iff, Bool.or_eq_true, hp, hq, hr]
  constructor
  · rintro (⟨key, hk, h⟩ | ⟨key, hk, h⟩)
    · exact ⟨key, (hm key).2 (Or.inl hk), h⟩
    · exact ⟨key, (hm key).2 (Or.inr hk), h⟩
  · rintro ⟨key, hk, h⟩
    rcases (hm key).1 hk with hk | hk
    · exact Or.inl ⟨key, hk, h⟩
    · exact Or.inr ⟨key, hk, h⟩
theorem BloomUnion_pure (l l' : List ByteArray) (bits_ : Int) (hb : sumBulk (fun s : ByteArray => s.size + 1) l + sumBulk (fun s : ByteArray => s.size + 1) l' + 3 ≤ 1048576) : ∃ k, morainelaw12_BloomUnion.f k l l' bits_ = some true := by
  obtain ⟨t, t0, t1, ht⟩ := among_all bits_ 64 (by omega) (by omega)
  have e : wrap64 (1 + t) = 1 + t := wr _ (by omega) (by omega)
  obtain ⟨K, hK⟩ : ∃ K : Nat, 90000000 ≤ K := ⟨_, Nat.le_refl _⟩
  obtain ⟨sm0, hl0⟩ := small_of l (by omega) (K + 1) (by omega)
  obtain ⟨sm1, hl1⟩ := small_of l' (by omega) (K + 1) (by omega)
  have hsum0 := sumBulk_len (fun s : ByteArray => s.size + 1) (fun s => by omega) l
  have hsum1 := sumBulk_len (fun s : ByteArray => s.size + 1) (fun s => by omega) l'
  have hn : l.length + l'.length ≤ 1048576 := by omega
  obtain ⟨a, hA⟩ : ∃ a, wrap64 (1 + t) = a := ⟨_, rfl⟩
  have ha : 1 ≤ a ∧ a ≤ 64 := by
    have := e.symm.trans hA
    clear e hA
    omega
  refine ⟨K + 1 + (l.length + l'.length) + 1 + 1, ?_⟩
  unfold morainelaw12_BloomUnion.f
  rw [works_good _ (by omega), Option.bind_some, if_pos rfl, ht, Option.bind_some, hA]
  by_cases z0 : l.length = 0
  · rw [if_pos (by omega), morainelaw12_BloomUnion.j0, if_pos rfl]
  · by_cases z1 : l'.length = 0
    · rw [if_neg (by omega), morainelaw12_BloomUnion.j0, if_pos (by rw [z1]; rfl)]
    · have hnn : wrap64 ((l.length : Int) + (l'.length : Int)) = ((l.length + l'.length : Nat) : Int) := (wr _ (by omega) (by omega)).trans (by omega)
      have hz : ((l'.length : Int) == 0) = false := beq_eq_false_iff_ne.2 (by omega)
      obtain ⟨X, Y, hX, hY, hloop⟩ := union_loop l l' a (l.length + l'.length) hn (by omega) (by omega) (l.length + l'.length) 0 (K + 1) [] [] (by omega) ⟨rfl, (fun x hx => by cases hx), (fun j hj => by omega)⟩ ⟨rfl, (fun x hx => by cases hx), (fun j hj => by omega)⟩
      have mX := hX.mem (by omega)
      have mY := hY.mem (by omega)
      have lX := hX.len
      have lY := hY.len
      obtain ⟨B, b0, b1, p1, q1, r1, hbits, hlast⟩ := union_filt X Y (l ++ l') a ha (l.length + l'.length) hn lX lY (by rw [List.length_append]) (fun x => by rw [List.mem_append, mX, mY])
      have hend := union_end (filt X a) (filt Y a) (filt (l ++ l') a) B b1 p1 q1 r1 hbits hlast B 0 (K - B - 1) (by omega)
      rw [show K - B - 1 + B + 1 = K by omega] at hend
      have hmX := make_good (K + 1) X a ha (by omega) (fun x hx => sm0 x ((mX x).1 hx))
      have hmY := make_good (K + 1) Y a ha (by omega) (fun x hx => sm1 x ((mY x).1 hx))
      have hmR := make_good (K + 1) (l ++ l') a ha (by rw [List.length_append]; omega) (fun x hx => by
        rcases List.mem_append.1 hx with hx | hx
        · exact sm0 x hx
        · exact sm1 x hx)
      have c0 : ¬ ((l.length + l'.length : Nat) : Int) < ((l.length + l'.length : Nat) : Int) := by omega
      have d0 : ([] : List ByteArray).length + l.length < 8796093022208 := by simp; omega
      have d1 : l.length + l'.length < 8796093022208 := by omega
      have d2 : ((filt X a).length : Int) = ((filt (l ++ l') a).length : Int) := by omega
      have d3 : ((filt Y a).length : Int) = ((filt (l ++ l') a).length : Int) := by omega
      have d4 : ¬ decide (((filt (l ++ l') a).length : Int) < 9) = true := by
        rw [decide_eq_true_eq]; omega
      rw [if_neg (by omega), hz, morainelaw12_BloomUnion.j0, if_neg Bool.false_ne_true, hnn]
      rw [show ((0 : Nat) : Int) = 0 by rfl] at hloop
      rw [hloop, morainelaw12_BloomUnion.l0, if_neg c0, hmX, Option.bind_some, hmY, Option.bind_some, Option.bind_some, if_pos d0, Option.bind_some, List.nil_append, if_pos d1, hmR, Option.bind_some, if_pos rfl, if_pos rfl, if_pos rfl, if_pos d2, if_pos d3, morainelaw12_BloomUnion.j2, if_neg d4]
      rw [show ((0 : Nat) : Int) = 0 by rfl] at hend
      exact hend
theorem BloomUnion_upto (w : World) (A0 : Option Addr) (c0 : Nat) (l0 : List ByteArray) (hc0 : l0.length ≤ c0) (hr0 : Kd.C Kd.string w A0 l0.length l0) (hg0 : ∀ x ∈ l0, x.size ≤ maxLen) (A1 : Option Addr) (c1 : Nat) (l1 : List ByteArray) (hc1 : l1.length ≤ c1) (hr1 : Kd.C Kd.string w A1 l1.length l1) (hg1 : ∀ x ∈ l1, x.size ≤ maxLen) (a2 : Int) (hg2 : (Lit.int .i64 a2).wf = true) (hbulk : sumBulk (fun s : ByteArray => s.size + 1) l0 + sumBulk (fun s : ByteArray => s.size + 1) l1 + 3 ≤ 1048576) :
    Calls Try.prog 8 #[.slice A0 l0.length c0, .slice A1 l1.length c1, .int .i64 a2] w fun e w' => e = .returned (.bool true) ∧ Below w.heap.size w w' := by
  obtain ⟨k, hk⟩ := BloomUnion_pure l0 l1 a2 hbulk
  exact morainelaw12_BloomUnion.calls k A0 c0 l0 A1 c1 l1 a2 true w hr0 hc0 hr1 hc1 hk

end Go.Proofs.Yticbfcfpchongaa.G
