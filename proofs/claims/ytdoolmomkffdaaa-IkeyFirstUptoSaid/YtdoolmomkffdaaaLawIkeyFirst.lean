/- Contracts typed by hand: IkeyFirst holds of every input within the form's reach -/
import Derived.Test.YtdoolmomkffdaaaProg
import Derived.Below
import Derived.Deep.Draws
import Derived.Deep.AppendLies
import Derived.Maps.AppendAt
import Derived.OwnWalk
import Derived.Laws.BytesArg
import Derived.Laws.MakeOwn
import Derived.Laws.OwnMore
import Derived.Deep.OwnRows
import Derived.Tactics
import Derived.Lib.ConvBytes
import Derived.Laws.Slices
import Derived.WalkKit
import Derived.KernelRfl
import Derived.RowKit3
import Derived.Deep.LoopGhost
import Derived.Deep.QuietTactic
import Derived.BigQuiet
import Derived.WideLaws
import Derived.Deep.DeepCutAuto
import Derived.Deep.CutBlock
import Derived.Deep.RegionHeld3
import Derived.Laws.Rows
import Derived.Lib.AppendStr
import Derived.ArgAppend
import Derived.Laws.IdiomCopy
import Derived.OrdersHeld
import Derived.Laws.BitsLemmas
import Derived.RowKit
import Derived.Test.YtdoolmomkffdaaaWWords
import Derived.Test.YtdoolmomkffdaaaWLast
import Derived.Test.YtdoolmomkffdaaaWTab
import Derived.Test.YtdoolmomkffdaaaWFour
import Derived.Test.YtdoolmomkffdaaaWQPut
import Derived.Test.YtdoolmomkffdaaaWApart
import Derived.Test.YtdoolmomkffdaaaWArr
import Derived.Test.YtdoolmomkffdaaaWZeros
import Derived.Test.YtdoolmomkffdaaaWFoot
import Derived.Test.YtdoolmomkffdaaaWKept
import Derived.Test.YtdoolmomkffdaaaWShare
import Derived.Test.YtdoolmomkffdaaaWN
import Derived.Test.YtdoolmomkffdaaaWFootNe
import Derived.Test.YtdoolmomkffdaaaWAt
import Derived.Test.YtdoolmomkffdaaaWEqStruct
import Derived.Test.YtdoolmomkffdaaaWRepsOne
import Derived.Test.YtdoolmomkffdaaaWInv
import Derived.Test.YtdoolmomkffdaaaWInvWords
import Derived.Test.YtdoolmomkffdaaaWGuard
import Derived.Test.YtdoolmomkffdaaaWNEv
import Derived.Test.YtdoolmomkffdaaaWMore
import Derived.Test.YtdoolmomkffdaaaPureIkey
import Derived.Test.YtdoolmomkffdaaaOpens
import Derived.Test.YtdoolmomkffdaaaGx22
import Derived.Test.YtdoolmomkffdaaaGx21
import Derived.Test.YtdoolmomkffdaaaGx20
import Derived.Test.YtdoolmomkffdaaaGx19
namespace Go.Proofs.Ytdoolmomkffdaaa.G
open Go.RowKit Go.Proofs.YtdoolmomkffdaaaW.PrintWords Go.Proofs.YtdoolmomkffdaaaW.PrintLast Go.Proofs.YtdoolmomkffdaaaW.PrintMore
attribute [local go_sem] max2_int min2_int max_two min_two max_three min_three max_four min_four
set_option linter.unusedVariables false
set_option linter.unusedSimpArgs false

/-! IkeyFirst holds of every input within the form's reach -/
theorem wr (x : Int) (h0 : -9223372036854775808 ≤ x) (h1 : x ≤ 9223372036854775807) : wrap64 x = x := by unfold wrap64; omega
theorem entries_eq (k : Nat) (a : ByteArray) (s t : Int) (v : ByteArray) (b : ByteArray) (u p : Int) (q : ByteArray) : ikey_entries.f (k + 4) a s t v b u p q = some (kc a.toList s t b.toList u p) := by
  unfold ikey_entries.f
  rw [compare_eq]
  rfl
def el (l : List S43) (i : Nat) : S43 := rd_T43 l (i : Int)
def kcE (a b : S43) : Int := kc a.f0.toList a.f1 a.f2 b.f0.toList b.f1 b.f2
theorem kcE_trans {a b c : S43} (h : kcE a b ≤ 0) (g : kcE b c ≤ 0) : kcE a c ≤ 0 := (kc_le_trans h g).1
structure Cand (l : List S43) (key : ByteArray) (seq : Int) (i : Nat) : Prop where
  key : (el l i).f0.toList = key.toList
  seq : (el l i).f1 ≤ seq
def Best (l : List S43) (key : ByteArray) (seq : Int) (n : Nat) (b : Int) : Prop :=
  (b = -1 ∧ ∀ j : Nat, j < n → ¬ Cand l key seq j) ∨ (∃ m : Nat, b = m ∧ m < n ∧ Cand l key seq m ∧ ∀ j : Nat, j < n → Cand l key seq j → kcE (el l m) (el l j) ≤ 0)
theorem best_skip {l : List S43} {key : ByteArray} {seq : Int} {i : Nat} {b : Int} (h : Best l key seq i b) (hn : ¬ Cand l key seq i) : Best l key seq (i + 1) b := by
  rcases h with ⟨h1, h2⟩ | ⟨m, h1, h2, h3, h4⟩
  · refine Or.inl ⟨h1, fun j hj => ?_⟩
    by_cases e : j = i
    · subst e; exact hn
    · exact h2 j (by omega)
  · refine Or.inr ⟨m, h1, by omega, h3, fun j hj hc => ?_⟩
    by_cases e : j = i
    · subst e; exact absurd hc hn
    · exact h4 j (by omega) hc
def newest (l : List S43) (b : Int) : ByteArray × Int × Int × ByteArray × Bool := if b < 0 then ((⟨#[]⟩ : ByteArray), 0, 0, (⟨#[]⟩ : ByteArray), false) else ((rd_T43 l b).f0, (rd_T43 l b).f1, (rd_T43 l b).f2, (rd_T43 l b).f3, true)
theorem newest_loop (l : List S43) (key : ByteArray) (seq : Int) (hl : l.length ≤ 1048576) : ∀ (d i k : Nat) (b : Int), i + d = l.length → Best l key seq i b →
    ∃ b', Best l key seq l.length b' ∧ ikey_Newest.l0 (k + 4 + d + 1) l key seq b l (l.length : Int) (i : Int) = some (newest l b')
  | 0, i, k, b, hi, hb => by
    obtain rfl : i = l.length := by omega
    refine ⟨b, hb, ?_⟩
    rw [ikey_Newest.l0, if_neg (by omega)]
    unfold newest
    rcases hb with ⟨rfl, _⟩ | ⟨m, rfl, h2, _⟩
    · rw [if_pos (by omega), if_pos (by omega)]
    · rw [if_neg (by omega), if_pos (by omega), if_pos (by omega), if_neg (by omega)]
  | d + 1, i, k, b, hi, hb => by
    have c0 : (i : Int) < (l.length : Int) := by omega
    have c1 : 0 ≤ (i : Int) := by omega
    have e5 : wrap64 ((i : Int) + 1) = ((i + 1 : Nat) : Int) := (wr _ (by omega) (by omega)).trans (by omega)
    have step : ∃ b2, Best l key seq (i + 1) b2 ∧ ikey_Newest.l0 (k + 4 + d + 1 + 1) l key seq b l (l.length : Int) (i : Int) = ikey_Newest.l0 (k + 4 + d + 1) l key seq b2 l (l.length : Int) ((i + 1 : Nat) : Int) := by
      rw [ikey_Newest.l0, if_pos c0, if_pos c1, if_pos c0, e5]
      change ∃ b2, Best l key seq (i + 1) b2 ∧ (if (el l i).f0.toList = key.toList then _ else _) = _
      by_cases h1 : (el l i).f0.toList = key.toList
      · rw [if_pos h1]
        change ∃ b2, Best l key seq (i + 1) b2 ∧ (if (el l i).f1 ≤ seq then _ else _) = _
        by_cases h2 : (el l i).f1 ≤ seq
        · rw [if_pos h2]
          have hc : Cand l key seq i := ⟨h1, h2⟩
          rcases hb with ⟨rfl, g⟩ | ⟨m, rfl, g1, g2, g3⟩
          · refine ⟨(i : Int), Or.inr ⟨i, rfl, by omega, hc, fun j hj hcj => ?_⟩, by rw [if_pos (by omega)]⟩
            by_cases e : j = i
            · subst e; exact Int.le_of_eq (kc_self _ _ _)
            · exact absurd hcj (g j (by omega))
          · have hE := entries_eq (k + d + 1) (el l i).f0 (el l i).f1 (el l i).f2 (el l i).f3 (el l m).f0 (el l m).f1 (el l m).f2 (el l m).f3
            have hk : k + d + 1 + 4 = k + 4 + d + 1 := by omega
            rw [hk] at hE
            have c2 : 0 ≤ (m : Int) := by omega
            have c3 : (m : Int) < (l.length : Int) := by omega
            rw [if_neg (by omega), if_pos c2, if_pos c3]
            change ∃ b2, Best l key seq (i + 1) b2 ∧ ((ikey_entries.f (k + 4 + d + 1) (el l i).f0 (el l i).f1 (el l i).f2 (el l i).f3 (el l m).f0 (el l m).f1 (el l m).f2 (el l m).f3).bind _) = _
            rw [hE, Option.bind_some]
            change ∃ b2, Best l key seq (i + 1) b2 ∧ (if kcE (el l i) (el l m) < 0 then _ else _) = _
            by_cases ht : kcE (el l i) (el l m) < 0
            · refine ⟨(i : Int), Or.inr ⟨i, rfl, by omega, hc, fun j hj hcj => ?_⟩, by rw [if_pos ht]⟩
              by_cases e : j = i
              · subst e; exact Int.le_of_eq (kc_self _ _ _)
              · exact kcE_trans (Int.le_of_lt ht) (g3 j (by omega) hcj)
            · refine ⟨(m : Int), Or.inr ⟨m, rfl, by omega, g2, fun j hj hcj => ?_⟩, by rw [if_neg ht]⟩
              by_cases e : j = i
              · subst e
                have := kc_anti (el l j).f0.toList (el l j).f1 (el l j).f2 (el l m).f0.toList (el l m).f1 (el l m).f2
                unfold kcE at ht ⊢
                omega
              · exact g3 j (by omega) hcj
        · rw [if_neg h2]
          exact ⟨b, best_skip hb (fun hc => h2 hc.seq), rfl⟩
      · rw [if_neg h1]
        exact ⟨b, best_skip hb (fun hc => h1 hc.key), rfl⟩
    obtain ⟨b2, hb2, hs⟩ := step
    obtain ⟨b', hb', hr⟩ := newest_loop l key seq hl d (i + 1) k b2 (by omega) hb2
    exact ⟨b', hb', by rw [show k + 4 + (d + 1) + 1 = k + 4 + d + 1 + 1 by omega, hs, hr]⟩
/-- what is known of the one that is told -/
structure Told (l : List S43) (key : ByteArray) (seq : Int) (e0 : ByteArray) (e1 e2 : Int) (e3 : ByteArray) (ok : Bool) : Prop where
  all : ∀ j : Nat, j < l.length → Cand l key seq j → ok = true ∧ kc key.toList e1 e2 key.toList (el l j).f1 (el l j).f2 ≤ 0
  one : ok = true → e0.toList = key.toList ∧ e1 ≤ seq ∧ ∃ m : Nat, m < l.length ∧ e0 = (el l m).f0 ∧ e1 = (el l m).f1 ∧ e2 = (el l m).f2 ∧ e3 = (el l m).f3
theorem newest_eq (k : Nat) (l : List S43) (key : ByteArray) (seq : Int) (hl : l.length ≤ 1048576) (hk : l.length + 5 ≤ k) : ∃ e0 e1 e2 e3 ok, ikey_Newest.f k l key seq = some (e0, e1, e2, e3, ok) ∧ Told l key seq e0 e1 e2 e3 ok := by
  obtain ⟨k, rfl⟩ : ∃ m, k = m + 4 + l.length + 1 := ⟨k - l.length - 5, by omega⟩
  obtain ⟨b, hb, hr⟩ := newest_loop l key seq hl l.length 0 k (-1) (by omega) (Or.inl ⟨rfl, fun j hj => by omega⟩)
  unfold ikey_Newest.f
  rw [show ((0 : Nat) : Int) = 0 by rfl] at hr
  rw [hr]
  unfold newest
  rcases hb with ⟨rfl, g⟩ | ⟨m, rfl, g1, g2, g3⟩
  · rw [if_pos (by omega)]
    exact ⟨_, _, _, _, _, rfl, ⟨fun j hj hc => absurd hc (g j hj), fun h => by cases h⟩⟩
  · rw [if_neg (by omega)]
    refine ⟨_, _, _, _, _, rfl, ⟨fun j hj hc => ⟨rfl, ?_⟩, fun _ => ⟨g2.key, g2.seq, m, g1, rfl, rfl, rfl, rfl⟩⟩⟩
    have := g3 j hj hc
    unfold kcE at this
    rw [g2.key, hc.key] at this
    exact this
theorem kc_at (key : List UInt8) (seq s t : Int) (h1 : 0 ≤ t) (h2 : t ≤ 255) (h3 : s ≤ 72057594037927935) : kc key (mn seq 72057594037927935) 255 key s t ≤ 0 ↔ s ≤ seq := by
  have hm : mn seq 72057594037927935 = if 72057594037927935 < seq then 72057594037927935 else seq := rfl
  unfold kc or3
  rw [cb_self, if_pos rfl, hm]
  unfold ic
  split <;> split <;> (try split) <;> (try split) <;> (try split) <;> omega
def MatchE (l : List S43) (m : Nat) (e0 : ByteArray) (e1 e2 : Int) (e3 : ByteArray) : Prop := e0 = (el l m).f0 ∧ e1 = (el l m).f1 ∧ e2 = (el l m).f2 ∧ e3 = (el l m).f3
def There (l : List S43) (i : Nat) (e0 : ByteArray) (e1 e2 : Int) (e3 : ByteArray) (ok x : Bool) : Prop := ok = true → 0 ≤ e2 → e2 ≤ 255 → e1 ≤ 72057594037927935 → (∃ m : Nat, m < i ∧ MatchE l m e0 e1 e2 e3) → x = true
theorem there_skip {l : List S43} {i : Nat} {e0 : ByteArray} {e1 e2 : Int} {e3 : ByteArray} {ok x y : Bool} (h : There l i e0 e1 e2 e3 ok x) (hxy : x = true → y = true) (hn : ok = true → 0 ≤ e2 → e2 ≤ 255 → e1 ≤ 72057594037927935 → MatchE l i e0 e1 e2 e3 → y = true) : There l (i + 1) e0 e1 e2 e3 ok y := by
  rintro h1 h2 h3 h4 ⟨m, hm, hM⟩
  by_cases e : m = i
  · subst e; exact hn h1 h2 h3 h4 hM
  · exact hxy (h h1 h2 h3 h4 ⟨m, by omega, hM⟩)
theorem first_loop (l : List S43) (key : ByteArray) (seq : Int) (hl : l.length ≤ 1048576) (e0 : ByteArray) (e1 e2 : Int) (e3 : ByteArray) (ok : Bool) (T : Told l key seq e0 e1 e2 e3 ok) : ∀ (d i k : Nat) (x : Bool), i + d = l.length → There l i e0 e1 e2 e3 ok x →
    morainelaw03_IkeyFirst.l0 (k + 4 + 3 * d + 1) l key seq ok x (i : Int) key (mn seq 72057594037927935) 255 e0 e1 e2 e3 = some true
  | 0, i, k, x, hi, hx => by
    obtain rfl : i = l.length := by omega
    rw [morainelaw03_IkeyFirst.l0, if_neg (by omega), if_pos rfl, if_pos rfl]
    cases x with
    | true => rw [if_pos rfl]
    | false =>
      rw [if_neg Bool.false_ne_true]
      cases ok with
      | false => rw [if_neg Bool.false_ne_true]
      | true =>
        rw [if_pos rfl]
        obtain ⟨_, _, m, hm, hM⟩ := T.one rfl
        by_cases h1 : e2 < 0
        · rw [if_pos h1]
        · rw [if_neg h1]
          by_cases h2 : e2 > 255
          · rw [if_pos h2]
          · rw [if_neg h2]
            by_cases h3 : e1 > 72057594037927935
            · rw [decide_eq_true h3]
            · exact absurd (hx rfl (by omega) (by omega) (by omega) ⟨m, hm, hM⟩) Bool.false_ne_true
  | d + 1, i, k, x, hi, hx => by
    have c0 : (i : Int) < (l.length : Int) := by omega
    have c1 : 0 ≤ (i : Int) := by omega
    have e5 : wrap64 ((i : Int) + 1) = ((i + 1 : Nat) : Int) := (wr _ (by omega) (by omega)).trans (by omega)
    have ih := fun y (hy : There l (i + 1) e0 e1 e2 e3 ok y) => first_loop l key seq hl e0 e1 e2 e3 ok T d (i + 1) k y (by omega) hy
    have skip : ∀ (hn : ok = true → 0 ≤ e2 → e2 ≤ 255 → e1 ≤ 72057594037927935 → ¬ MatchE l i e0 e1 e2 e3), morainelaw03_IkeyFirst.j2 (k + 4 + 3 * d + 2 + 1) l key seq ok x (i : Int) true key (mn seq 72057594037927935) 255 e0 e1 e2 e3 = some true := by
      intro hn
      rw [morainelaw03_IkeyFirst.j2, if_pos rfl, e5]
      have := first_loop l key seq hl e0 e1 e2 e3 ok T d (i + 1) (k + 1) x (by omega) (there_skip hx id (fun a b c e f => absurd f (hn a b c e)))
      rw [show k + 4 + 3 * d + 2 = k + 1 + 4 + 3 * d + 1 by omega]
      exact this
    rw [show k + 4 + 3 * (d + 1) + 1 = (k + 4 + 3 * d + 2 + 1) + 1 by omega, morainelaw03_IkeyFirst.l0, if_pos c0, if_pos c1]
    change (if (el l i).f0.toList = key.toList then _ else _) = _
    by_cases h1 : (el l i).f0.toList = key.toList
    · rw [if_pos h1]
      change (if (el l i).f2 < 0 then _ else (if (el l i).f2 > 255 then _ else morainelaw03_IkeyFirst.j2 _ l key seq ok x (i : Int) (decide ((el l i).f1 > 72057594037927935)) _ _ _ _ _ _ _)) = _
      by_cases h2 : (el l i).f2 < 0
      · rw [if_pos h2]
        exact skip (fun _ a _ _ hM => by have := hM.2.2.1; omega)
      · rw [if_neg h2]
        by_cases h3 : (el l i).f2 > 255
        · rw [if_pos h3]
          exact skip (fun _ _ a _ hM => by have := hM.2.2.1; omega)
        · rw [if_neg h3]
          by_cases h4 : (el l i).f1 > 72057594037927935
          · rw [decide_eq_true h4]
            exact skip (fun _ _ _ a hM => by have := hM.2.1; omega)
          · rw [decide_eq_false h4, morainelaw03_IkeyFirst.j2, if_neg Bool.false_ne_true, if_pos c1, if_pos c0]
            have hat := kc_at key.toList seq (el l i).f1 (el l i).f2 (by omega) (by omega) (by omega)
            have hE := compare_eq (k + 3 * d + 2) key (mn seq 72057594037927935) 255 key (el l i).f1 (el l i).f2
            rw [show k + 3 * d + 2 + 4 = k + 4 + 3 * d + 2 by omega] at hE
            change ((ikey_Compare.f (k + 4 + 3 * d + 2) key (mn seq 72057594037927935) 255 key (el l i).f1 (el l i).f2).bind fun t170 => (if ((decide ((el l i).f1 ≤ seq)) != (decide (t170 ≤ 0))) = true then _ else (if (el l i).f1 ≤ seq then morainelaw03_IkeyFirst.j3 _ l key seq ok x (i : Int) (!ok) _ _ _ _ _ _ _ key (el l i).f1 (el l i).f2 else morainelaw03_IkeyFirst.j3 _ l key seq ok x (i : Int) false _ _ _ _ _ _ _ key (el l i).f1 (el l i).f2))) = _
            rw [hE, Option.bind_some]
            have hne : ((decide ((el l i).f1 ≤ seq)) != (decide (kc key.toList (mn seq 72057594037927935) 255 key.toList (el l i).f1 (el l i).f2 ≤ 0))) = false := by
              rw [bne_eq_false_iff_eq, Bool.eq_iff_iff]
              simp only [decide_eq_true_eq]
              exact hat.symm
            rw [hne, if_neg Bool.false_ne_true]
            have fin : morainelaw03_IkeyFirst.j3 (k + 4 + 3 * d + 1 + 1) l key seq ok x (i : Int) false key (mn seq 72057594037927935) 255 e0 e1 e2 e3 key (el l i).f1 (el l i).f2 = some true := by
              have hth : There l (i + 1) e0 e1 e2 e3 ok (x || (((el l i).f0.toList == e0.toList) && (((el l i).f1 == e1) && (((el l i).f2 == e2) && ((el l i).f3.toList == e3.toList))))) := by
                refine there_skip hx (fun h => by rw [h]; rfl) (fun _ _ _ _ hM => ?_)
                obtain ⟨m0, m1, m2, m3⟩ := hM
                rw [m0, m1, m2, m3]
                simp
              have ih' := ih _ hth
              rw [morainelaw03_IkeyFirst.j3, if_neg Bool.false_ne_true, if_pos c1, if_pos c0, e5]
              change (if (el l i).f1 ≤ seq then ((ikey_Compare.f (k + 4 + 3 * d + 1) key e1 e2 key (el l i).f1 (el l i).f2).bind fun t173 => (if t173 > 0 then some false else (if x = true then _ else morainelaw03_IkeyFirst.l0 _ l key seq ok (((el l i).f0.toList == e0.toList) && (((el l i).f1 == e1) && (((el l i).f2 == e2) && ((el l i).f3.toList == e3.toList)))) _ _ _ _ _ _ _ _))) else (if x = true then _ else morainelaw03_IkeyFirst.l0 _ l key seq ok (((el l i).f0.toList == e0.toList) && (((el l i).f1 == e1) && (((el l i).f2 == e2) && ((el l i).f3.toList == e3.toList)))) _ _ _ _ _ _ _ _)) = _
              by_cases h5 : (el l i).f1 ≤ seq
              · obtain ⟨_, hle⟩ := T.all i (by omega) ⟨h1, h5⟩
                have hE2 := compare_eq (k + 3 * d + 1) key e1 e2 key (el l i).f1 (el l i).f2
                rw [show k + 3 * d + 1 + 4 = k + 4 + 3 * d + 1 by omega] at hE2
                rw [if_pos h5, hE2, Option.bind_some, if_neg (by omega)]
                cases x with
                | true => rw [if_pos rfl]; exact ih'
                | false => rw [if_neg Bool.false_ne_true]; exact ih'
              · rw [if_neg h5]
                cases x with
                | true => rw [if_pos rfl]; exact ih'
                | false => rw [if_neg Bool.false_ne_true]; exact ih'
            by_cases h5 : (el l i).f1 ≤ seq
            · obtain ⟨hok, _⟩ := T.all i (by omega) ⟨h1, h5⟩
              rw [if_pos h5, hok]
              rw [hok] at fin
              exact fin
            · rw [if_neg h5]
              exact fin
    · rw [if_neg h1]
      exact skip (fun hok _ _ _ hM => h1 (by rw [← hM.1]; exact (T.one hok).1))
theorem IkeyFirst_pure (l : List S43) (key : ByteArray) (seq : Int) (hl : l.length ≤ 1048576) : ∃ k, morainelaw03_IkeyFirst.f k l key seq = some true := by
  obtain ⟨k, hk⟩ : ∃ k : Nat, k = 4 + 3 * l.length + 1 + 1 := ⟨_, rfl⟩
  obtain ⟨e0, e1, e2, e3, ok, hn, T⟩ := newest_eq k l key seq hl (by omega)
  have hloop := first_loop l key seq hl e0 e1 e2 e3 ok T l.length 0 0 false (by omega) (by rintro _ _ _ _ ⟨m, hm, _⟩; omega)
  rw [show 0 + 4 + 3 * l.length + 1 = 4 + 3 * l.length + 1 by omega, show ((0 : Nat) : Int) = 0 by rfl] at hloop
  refine ⟨k, ?_⟩
  have h0 : morainelaw03_IkeyFirst.j0 k l key seq ok false key (mn seq 72057594037927935) 255 e0 e1 e2 e3 = some true := by
    rw [hk, morainelaw03_IkeyFirst.j0, if_neg Bool.false_ne_true]
    exact hloop
  unfold morainelaw03_IkeyFirst.f ikey_At.f
  rw [Option.bind_some, hn, Option.bind_some]
  cases ok with
  | false =>
    rw [if_neg Bool.false_ne_true]
    exact h0
  | true =>
    obtain ⟨h1, h2, _⟩ := T.one rfl
    rw [if_pos rfl, if_pos h1]
    have : decide (e1 > seq) = false := decide_eq_false (by omega)
    change morainelaw03_IkeyFirst.j0 k l key seq true (decide (e1 > seq)) key (mn seq 72057594037927935) 255 e0 e1 e2 e3 = some true
    rw [this]
    exact h0
theorem IkeyFirst_upto (w : World) (A0 : Option Addr) (c0 : Nat) (l0 : List S43) (hc0 : l0.length ≤ c0) (hr0 : Kd.C k43 w A0 l0.length l0) (hg0 : ∀ x ∈ l0, x.f0.size ≤ maxLen ∧ (Lit.int .u64 x.f1).wf = true ∧ (Lit.int .i64 x.f2).wf = true ∧ x.f3.size ≤ maxLen) (a1 : ByteArray) (hg1 : a1.size ≤ maxLen) (a2 : Int) (hg2 : (Lit.int .u64 a2).wf = true)
    (hbulk : (sumBulk (fun x : S43 => x.f0.size + 1 + 1 + 1 + (x.f3.size + 1) + 1) l0 + 1) + ((a1.size + 1) + 1) ≤ 1048576) :
    Calls Try.prog 6 #[.slice A0 l0.length c0, .string a1, .int .u64 a2] w fun e w' => e = .returned (.bool true) ∧ Below w.heap.size w w' := by
  have n0 := sumBulk_len (fun x : S43 => x.f0.size + 1 + 1 + 1 + (x.f3.size + 1) + 1) (fun x => by omega) l0
  (try simp only [] at hbulk)
  obtain ⟨k, hk⟩ := IkeyFirst_pure l0 a1 a2 (by omega)
  exact morainelaw03_IkeyFirst.calls k A0 c0 l0 a1 a2 true w hr0 hc0 hk

end Go.Proofs.Ytdoolmomkffdaaa.G
