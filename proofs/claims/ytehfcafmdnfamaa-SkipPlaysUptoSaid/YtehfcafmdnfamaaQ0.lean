/- Contracts of functions and plain laws, several texts of the session put together by its program. -/
import Derived.Test.YtehfcafmdnfamaaProg
import Derived.Below
import Derived.Deep.Draws
import Derived.Deep.AppendLies
import Derived.Maps.AppendAt
import Derived.OwnWalk
import Derived.Laws.BytesArg
import Derived.Laws.MakeOwn
import Derived.Laws.OwnMore
import Derived.Deep.OwnRows
import Derived.Tactics
import Derived.Lib.ConvBytes
import Derived.Laws.Slices
import Derived.WalkKit
import Derived.KernelRfl
import Derived.RowKit3
import Derived.Deep.LoopGhost
import Derived.Deep.QuietTactic
import Derived.BigQuiet
import Derived.WideLaws
import Derived.Deep.DeepCutAuto
import Derived.Deep.CutBlock
import Derived.Deep.RegionHeld3
import Derived.Laws.Rows
import Derived.Lib.AppendStr
import Derived.ArgAppend
import Derived.Laws.IdiomCopy
import Derived.OrdersHeld
import Derived.Laws.BitsLemmas
import Derived.RowKit
import Derived.Test.YtehfcafmdnfamaaWVWords
import Derived.Test.YtehfcafmdnfamaaWVLast
import Derived.Test.YtehfcafmdnfamaaWVTab
import Derived.Test.YtehfcafmdnfamaaWVFour
import Derived.Test.YtehfcafmdnfamaaWVQPut
import Derived.Test.YtehfcafmdnfamaaWVApart
import Derived.Test.YtehfcafmdnfamaaWVArr
import Derived.Test.YtehfcafmdnfamaaWVZeros
import Derived.Test.YtehfcafmdnfamaaWVFoot
import Derived.Test.YtehfcafmdnfamaaWVKept
import Derived.Test.YtehfcafmdnfamaaWVShare
import Derived.Test.YtehfcafmdnfamaaWVN
import Derived.Test.YtehfcafmdnfamaaWVFootNe
import Derived.Test.YtehfcafmdnfamaaWVAt
import Derived.Test.YtehfcafmdnfamaaWVEqStruct
import Derived.Test.YtehfcafmdnfamaaWVRepsOne
import Derived.Test.YtehfcafmdnfamaaWVInv
import Derived.Test.YtehfcafmdnfamaaWVInvWords
import Derived.Test.YtehfcafmdnfamaaWVGuard
import Derived.Test.YtehfcafmdnfamaaWVNEv
import Derived.Test.YtehfcafmdnfamaaWVMore
import Derived.Lib.Bytealg
import Derived.Lib.Strings
import Derived.Deep.RegionHeld2
import Derived.Lib.BufferMore
import Derived.Laws.Externs

/- Contracts typed by hand: the order of keys in plain Lean -/
namespace Go.Proofs.Ytehfcafmdnfamaa.G
open Go.RowKit Go.Proofs.YtehfcafmdnfamaaW.PrintWords Go.Proofs.YtehfcafmdnfamaaW.PrintLast Go.Proofs.YtehfcafmdnfamaaW.PrintMore
attribute [local go_sem] max2_int min2_int max_two min_two max_three min_three max_four min_four
set_option linter.unusedVariables false
set_option linter.unusedSimpArgs false

/-! the order of keys in plain Lean -/
def cb (a b : List UInt8) : Int := Lib.compareBytes a b
def ic (a b : Int) : Int := if a < b then -1 else if b < a then 1 else 0
theorem cb_rng : ∀ a b, cb a b = -1 ∨ cb a b = 0 ∨ cb a b = 1
  | [], [] => Or.inr (Or.inl rfl)
  | [], _ :: _ => Or.inl rfl
  | _ :: _, [] => Or.inr (Or.inr rfl)
  | x :: a, y :: b => by
    unfold cb Lib.compareBytes
    by_cases h : x < y
    · rw [if_pos h]; exact Or.inl rfl
    · rw [if_neg h]
      by_cases h2 : y < x
      · rw [if_pos h2]; exact Or.inr (Or.inr rfl)
      · rw [if_neg h2]; exact cb_rng a b
theorem cb_cons (x y : UInt8) (a b : List UInt8) : cb (x :: a) (y :: b) = if x < y then -1 else if y < x then 1 else cb a b := by
  unfold cb; rw [Lib.compareBytes]
theorem cb_self : ∀ a, cb a a = 0
  | [] => rfl
  | x :: a => by rw [cb_cons, if_neg (UInt8.lt_irrefl x), if_neg (UInt8.lt_irrefl x), cb_self a]
theorem cb_eq : ∀ a b, cb a b = 0 → a = b
  | [], [], _ => rfl
  | [], _ :: _, h => by simp [cb, Lib.compareBytes] at h
  | _ :: _, [], h => by simp [cb, Lib.compareBytes] at h
  | x :: a, y :: b, h => by
    rw [cb_cons] at h
    by_cases h1 : x < y
    · rw [if_pos h1] at h; omega
    · rw [if_neg h1] at h
      by_cases h2 : y < x
      · rw [if_pos h2] at h; omega
      · rw [if_neg h2] at h
        rw [cb_eq a b h, UInt8.le_antisymm (UInt8.not_lt.1 h2) (UInt8.not_lt.1 h1)]
theorem cb_iff (a b : List UInt8) : cb a b = 0 ↔ a = b := ⟨cb_eq a b, fun h => by rw [h, cb_self]⟩
theorem cb_anti : ∀ a b, cb b a = - cb a b
  | [], [] => rfl
  | [], _ :: _ => rfl
  | _ :: _, [] => rfl
  | x :: a, y :: b => by
    rw [cb_cons, cb_cons]
    by_cases h1 : x < y
    · rw [if_pos h1, if_neg (fun h => UInt8.lt_irrefl x (UInt8.lt_trans h1 h)), if_pos h1]; rfl
    · rw [if_neg h1]
      by_cases h2 : y < x
      · rw [if_pos h2, if_neg h1, if_pos h2]
      · simp only [if_neg h1, if_neg h2]; exact cb_anti a b
theorem cb_trans : ∀ a b c, cb a b < 0 → cb b c < 0 → cb a c < 0
  | [], [], _, h, _ => by simp [cb, Lib.compareBytes] at h
  | [], _ :: _, [], _, h => by simp [cb, Lib.compareBytes] at h
  | [], _ :: _, _ :: _, _, _ => by simp [cb, Lib.compareBytes]
  | _ :: _, [], _, h, _ => by simp [cb, Lib.compareBytes] at h
  | _ :: _, _ :: _, [], _, h => by simp [cb, Lib.compareBytes] at h
  | x :: a, y :: b, z :: c, h, k => by
    rw [cb_cons] at h k ⊢
    by_cases h1 : x < y
    · by_cases k1 : y < z
      · rw [if_pos (UInt8.lt_trans h1 k1)]; omega
      · rw [if_neg k1] at k
        by_cases k2 : z < y
        · rw [if_pos k2] at k; omega
        · have : y = z := UInt8.le_antisymm (UInt8.not_lt.1 k2) (UInt8.not_lt.1 k1)
          subst this
          rw [if_pos h1]; omega
    · rw [if_neg h1] at h
      by_cases h2 : y < x
      · rw [if_pos h2] at h; omega
      · rw [if_neg h2] at h
        have : x = y := UInt8.le_antisymm (UInt8.not_lt.1 h2) (UInt8.not_lt.1 h1)
        subst this
        by_cases k1 : x < z
        · rw [if_pos k1]; omega
        · rw [if_neg k1] at k ⊢
          by_cases k2 : z < x
          · rw [if_pos k2] at k; omega
          · rw [if_neg k2] at k ⊢
            exact cb_trans a b c h k
theorem less_cb : ∀ a b, Op.bytesLess a b = decide (cb a b < 0)
  | [], [] => rfl
  | [], _ :: _ => by simp [Op.bytesLess, cb, Lib.compareBytes]
  | _ :: _, [] => by simp [Op.bytesLess, cb, Lib.compareBytes]
  | x :: a, y :: b => by
    rw [cb_cons, Op.bytesLess, less_cb a b]
    by_cases h1 : x < y
    · rw [if_pos h1]; simp [h1]
    · rw [if_neg h1]
      by_cases h2 : y < x
      · rw [if_pos h2]
        have : x ≠ y := fun e => h1 (by subst e; exact absurd h2 (UInt8.lt_irrefl x))
        simp [h1, this]
      · rw [if_neg h2]
        have : x = y := UInt8.le_antisymm (UInt8.not_lt.1 h2) (UInt8.not_lt.1 h1)
        subst this
        simp [UInt8.lt_irrefl]
theorem ic_iff (a b : Int) : ic a b = 0 ↔ a = b := by unfold ic; split <;> (try split) <;> omega
theorem ic_anti (a b : Int) : ic b a = - ic a b := by unfold ic; split <;> (try split) <;> omega
theorem ic_neg (a b : Int) : ic a b < 0 ↔ a < b := by unfold ic; split <;> (try split) <;> omega
theorem ic_trans (a b c : Int) (h : ic a b < 0) (k : ic b c < 0) : ic a c < 0 := by rw [ic_neg] at *; omega
/-- the first that is not nought -/
def or3 (x y z : Int) : Int := if x = 0 then (if y = 0 then z else y) else x
/-- the order of internal keys -/
def kc (a : List UInt8) (s k : Int) (b : List UInt8) (t l : Int) : Int := or3 (cb a b) (ic t s) (ic l k)
theorem kc_iff (a s k b t l) : kc a s k b t l = 0 ↔ a = b ∧ s = t ∧ k = l := by
  have h1 := cb_iff a b; have h2 := ic_iff t s; have h3 := ic_iff l k
  unfold kc or3
  by_cases e1 : cb a b = 0
  · rw [if_pos e1]
    by_cases e2 : ic t s = 0
    · rw [if_pos e2, h3]
      exact ⟨fun e => ⟨h1.1 e1, (h2.1 e2).symm, e.symm⟩, fun e => e.2.2.symm⟩
    · rw [if_neg e2]
      exact ⟨fun e => absurd e e2, fun e => absurd (h2.2 e.2.1.symm) e2⟩
  · rw [if_neg e1]
    exact ⟨fun e => absurd e e1, fun e => absurd (h1.2 e.1) e1⟩
theorem kc_self (a s k) : kc a s k a s k = 0 := (kc_iff ..).2 ⟨rfl, rfl, rfl⟩
theorem kc_anti (a s k b t l) : kc b t l a s k = - kc a s k b t l := by
  have h1 := cb_anti a b; have h2 := ic_anti t s; have h3 := ic_anti l k
  unfold kc or3
  rw [h1, h2, h3]
  split <;> (try split) <;> (try split) <;> (try split) <;> omega
theorem kc_trans {a s k b t l c u m} (h : kc a s k b t l < 0) (g : kc b t l c u m < 0) : kc a s k c u m < 0 := by
  unfold kc or3 at *
  by_cases e1 : cb a b = 0
  · rw [if_pos e1] at h
    obtain rfl := cb_eq _ _ e1
    by_cases e2 : cb a c = 0
    · rw [if_pos e2] at g ⊢
      by_cases f1 : ic t s = 0
      · obtain rfl := (ic_iff _ _).1 f1
        rw [if_pos f1] at h
        by_cases f2 : ic u t = 0
        · rw [if_pos f2] at g ⊢
          exact ic_trans _ _ _ g h
        · rw [if_neg f2] at g ⊢; exact g
      · rw [if_neg f1] at h
        by_cases f2 : ic u t = 0
        · obtain rfl := (ic_iff _ _).1 f2
          rw [if_neg f1]; exact h
        · rw [if_neg f2] at g
          have := ic_trans _ _ _ g h
          rw [if_neg (by omega)]; exact this
    · rw [if_neg e2] at g ⊢; exact g
  · rw [if_neg e1] at h
    by_cases e2 : cb b c = 0
    · obtain rfl := cb_eq _ _ e2
      rw [if_neg e1]; exact h
    · rw [if_neg e2] at g
      have := cb_trans _ _ _ h g
      rw [if_neg (by omega)]; exact this
end Go.Proofs.Ytehfcafmdnfamaa.G

/- Contracts typed by hand: the links of a skiplist: plain -/
namespace Go.Proofs.Ytehfcafmdnfamaa.G
open Go.RowKit Go.Proofs.YtehfcafmdnfamaaW.PrintWords Go.Proofs.YtehfcafmdnfamaaW.PrintLast Go.Proofs.YtehfcafmdnfamaaW.PrintMore
attribute [local go_sem] max2_int min2_int max_two min_two max_three min_three max_four min_four
set_option linter.unusedVariables false
set_option linter.unusedSimpArgs false

/-! the links of a skiplist: plain -/
/-- the first of a list whose tower reaches above a level; 0: none -/
def nx (ht : Nat → Nat) (j : Nat) : List Nat → Nat
  | [] => 0
  | a :: l => if j < ht a then a else nx ht j l
def lastOf (l : List Nat) : Nat := l.getLastD 0
/-- the last one whose tower reaches above a level; 0: none -/
def tr (ht : Nat → Nat) (j : Nat) (l : List Nat) : Nat := lastOf (l.filter fun z => decide (j < ht z))
theorem lastOf_snoc (a : List Nat) (z : Nat) : lastOf (a ++ [z]) = z := by simp [lastOf]
theorem lastOf_ne {a : List Nat} (h : a ≠ []) : lastOf a = a.getLast h := by
  unfold lastOf
  rw [List.getLastD_eq_getLast?, List.getLast?_eq_some_getLast h]; rfl
theorem lastOf_append_cons (a b : List Nat) (z : Nat) : lastOf (a ++ z :: b) = lastOf (z :: b) := by
  rw [lastOf_ne (by simp), lastOf_ne (by simp), List.getLast_append_of_ne_nil (by simp) (by simp)]
theorem lastOf_mem {a : List Nat} (h : a ≠ []) : lastOf a ∈ a := by
  rw [lastOf_ne h]
  exact List.getLast_mem h
theorem lastOf_split {a : List Nat} (h : a ≠ []) : ∃ a', a = a' ++ [lastOf a] := by
  refine ⟨a.dropLast, ?_⟩
  rw [lastOf_ne h]
  exact (List.dropLast_concat_getLast h).symm
theorem nx_none {ht : Nat → Nat} {j : Nat} : ∀ {l : List Nat}, (∀ z ∈ l, ¬ j < ht z) → nx ht j l = 0
  | [], _ => rfl
  | a :: l, h => by
    rw [nx, if_neg (h a (List.mem_cons_self ..))]
    exact nx_none fun z hz => h z (List.mem_cons_of_mem _ hz)
theorem nx_append_none {ht : Nat → Nat} {j : Nat} (b : List Nat) : ∀ {l : List Nat}, (∀ z ∈ l, ¬ j < ht z) → nx ht j (l ++ b) = nx ht j b
  | [], _ => rfl
  | a :: l, h => by
    rw [List.cons_append, nx, if_neg (h a (List.mem_cons_self ..))]
    exact nx_append_none b fun z hz => h z (List.mem_cons_of_mem _ hz)
/-- either none of a list reaches above a level, or the first one that does parts it -/
theorem nx_part (ht : Nat → Nat) (j : Nat) : ∀ l : List Nat, (∀ z ∈ l, ¬ j < ht z) ∨ ∃ l1 z l2, l = l1 ++ z :: l2 ∧ (∀ u ∈ l1, ¬ j < ht u) ∧ j < ht z ∧ ∀ b, nx ht j (l ++ b) = z
  | [] => Or.inl fun z h => by cases h
  | a :: l => by
    by_cases h : j < ht a
    · exact Or.inr ⟨[], a, l, rfl, (fun u hu => by cases hu), h, fun b => by rw [List.cons_append, nx, if_pos h]⟩
    · rcases nx_part ht j l with h1 | ⟨l1, z, l2, rfl, h1, h2, h3⟩
      · left
        intro z hz
        rcases List.mem_cons.1 hz with rfl | hz
        · exact h
        · exact h1 z hz
      · right
        refine ⟨a :: l1, z, l2, rfl, ?_, h2, fun b => ?_⟩
        · intro u hu
          rcases List.mem_cons.1 hu with rfl | hu
          · exact h
          · exact h1 u hu
        · rw [List.cons_append, nx, if_neg h]
          exact h3 b
theorem tr_append_none {ht : Nat → Nat} {j : Nat} (a : List Nat) {c : List Nat} (h : ∀ z ∈ c, ¬ j < ht z) : tr ht j (a ++ c) = tr ht j a := by
  unfold tr
  have e : c.filter (fun z => decide (j < ht z)) = [] := List.filter_eq_nil_iff.2 fun z hz => by simpa using h z hz
  rw [List.filter_append, e, List.append_nil]
theorem tr_last {ht : Nat → Nat} {j : Nat} {a : List Nat} (h : a = [] ∨ j < ht (lastOf a)) : tr ht j a = lastOf a := by
  by_cases ha : a = []
  · subst ha; rfl
  · have h := h.resolve_left ha
    obtain ⟨a', e⟩ := lastOf_split ha
    generalize lastOf a = z at *
    subst e
    unfold tr
    rw [List.filter_append, List.filter_cons_of_pos (by simpa using h), List.filter_nil, lastOf_snoc]
/-- a list parted behind the last one that reaches above a level -/
theorem tr_part (ht : Nat → Nat) (j : Nat) (x : List Nat) : ∃ a c, x = a ++ c ∧ lastOf a = tr ht j x ∧ (a = [] ∨ j < ht (lastOf a)) ∧ ∀ z ∈ c, ¬ j < ht z := by
  rcases nx_part ht j x.reverse with h | ⟨l1, z, l2, h, h1, h2, _⟩
  · refine ⟨[], x, rfl, ?_, Or.inl rfl, fun z hz => h z (by simpa using hz)⟩
    have := tr_append_none [] (c := x) (ht := ht) (j := j) fun z hz => h z (by simpa using hz)
    rw [List.nil_append] at this
    rw [this]; rfl
  · have h' : x = (l2.reverse ++ [z]) ++ l1.reverse := by
      have := congrArg List.reverse h
      rw [List.reverse_reverse] at this
      rw [this]; simp
    have hn : ∀ u ∈ l1.reverse, ¬ j < ht u := fun u hu => h1 u (by simpa using hu)
    refine ⟨l2.reverse ++ [z], l1.reverse, h', ?_, Or.inr (by rw [lastOf_snoc]; exact h2), hn⟩
    rw [h', tr_append_none _ hn, tr_last (Or.inr (by rw [lastOf_snoc]; exact h2))]
/-- the links of a skiplist whose nodes stand in an order -/
structure Links (ht : Nat → Nat) (nxt : Nat → Nat → Nat) (prv : Nat → Nat) (order : List Nat) : Prop where
  next : ∀ j a b, j < 12 → order = a ++ b → (a = [] ∨ j < ht (lastOf a)) → nxt j (lastOf a) = nx ht j b
  prev : ∀ a y b, order = a ++ y :: b → prv y = lastOf a
/-- behind the last one of the first part that reaches above a level stands the first one of the second part that does -/
theorem Links.over {ht : Nat → Nat} {nxt : Nat → Nat → Nat} {prv : Nat → Nat} {x y : List Nat} (h : Links ht nxt prv (x ++ y)) {j : Nat} (hj : j < 12) : nxt j (tr ht j x) = nx ht j y := by
  obtain ⟨a, c, hx, h1, h2, h3⟩ := tr_part ht j x
  rw [← h1, h.next j a (c ++ y) hj (by rw [hx, List.append_assoc]) h2, nx_append_none y h3]
theorem append_cons_cases {x y a b : List Nat} {m : Nat} (h : x ++ m :: y = a ++ b) : (∃ c, x = a ++ c ∧ b = c ++ m :: y) ∨ (∃ a2, a = x ++ m :: a2 ∧ y = a2 ++ b) := by
  rcases List.append_eq_append_iff.1 h with ⟨c, h1, h2⟩ | ⟨c, h1, h2⟩
  · cases c with
    | nil =>
      rw [List.append_nil] at h1
      exact Or.inl ⟨[], by rw [h1, List.append_nil], by simpa using h2.symm⟩
    | cons z c =>
      rw [List.cons_append, List.cons.injEq] at h2
      obtain ⟨rfl, h2⟩ := h2
      exact Or.inr ⟨c, h1, h2⟩
  · exact Or.inl ⟨c, h1, h2⟩
theorem nx_congr {ht ht' : Nat → Nat} {j : Nat} : ∀ {l : List Nat}, (∀ z ∈ l, ht' z = ht z) → nx ht' j l = nx ht j l
  | [], _ => rfl
  | a :: l, h => by rw [nx, nx, h a (List.mem_cons_self ..), nx_congr fun z hz => h z (List.mem_cons_of_mem _ hz)]
theorem nx_mem {ht : Nat → Nat} {j : Nat} (l : List Nat) : nx ht j l = 0 ∨ nx ht j l ∈ l := by
  rcases nx_part ht j l with h | ⟨l1, z, l2, rfl, _, _, h⟩
  · exact Or.inl (nx_none h)
  · right
    have := h []
    rw [List.append_nil] at this
    rw [this]; simp
theorem tr_mem {ht : Nat → Nat} {j : Nat} (l : List Nat) : tr ht j l = 0 ∨ tr ht j l ∈ l := by
  unfold tr
  by_cases h : (l.filter fun z => decide (j < ht z)) = []
  · rw [h]; exact Or.inl rfl
  · exact Or.inr (List.mem_filter.1 (lastOf_mem h)).1
theorem tr_zero {ht : Nat → Nat} {x : List Nat} (h : ∀ z ∈ x, 0 < ht z) : tr ht 0 x = lastOf x := by
  refine tr_last ?_
  by_cases hx : x = []
  · exact Or.inl hx
  · exact Or.inr (h _ (lastOf_mem hx))
theorem nx_zero {ht : Nat → Nat} {x : List Nat} (h : ∀ z ∈ x, 0 < ht z) : nx ht 0 x = x.headD 0 := by
  cases x with
  | nil => rfl
  | cons a l => rw [nx, if_pos (h a (List.mem_cons_self ..))]; rfl
/-- one more node -/
theorem Links.insert {ht ht' : Nat → Nat} {nxt nxt' : Nat → Nat → Nat} {prv prv' : Nat → Nat} {x y : List Nat} {m : Nat} (h : Links ht nxt prv (x ++ y)) (hpos : ∀ z ∈ x ++ y, 0 < ht z)
    (h0 : 0 ∉ x ++ y) (hm : m ∉ x ++ y) (hm0 : m ≠ 0) (hnd : (x ++ y).Nodup) (hht : ∀ z, z ≠ m → ht' z = ht z) (hhm : 0 < ht' m)
    (hn1 : ∀ j, j < ht' m → j < 12 → nxt' j m = nxt j (tr ht j x)) (hn2 : ∀ j, j < 12 → j < ht' m → nxt' j (tr ht j x) = m) (hn3 : ∀ j z, j < 12 → z ≠ m → ¬ (j < ht' m ∧ z = tr ht j x) → nxt' j z = nxt j z)
    (hp1 : prv' m = tr ht 0 x) (hp2 : ∀ z, z = nxt 0 (tr ht 0 x) → z ≠ 0 → prv' z = m) (hp3 : ∀ z, z ≠ m → z ≠ nxt 0 (tr ht 0 x) → prv' z = prv z) : Links ht' nxt' prv' (x ++ m :: y) := by
  have hmx : m ∉ x := fun e => hm (List.mem_append_left _ e)
  have hmy : m ∉ y := fun e => hm (List.mem_append_right _ e)
  have h0x : 0 ∉ x := fun e => h0 (List.mem_append_left _ e)
  have h0y : 0 ∉ y := fun e => h0 (List.mem_append_right _ e)
  have hdis : ∀ z, z ∈ x → z ∈ y → False := fun z h1 h2 => (List.nodup_append.1 hnd).2.2 z h1 z h2 rfl
  have hover0 := h.over (j := 0) (by omega)
  rw [nx_zero (fun z hz => hpos z (List.mem_append_right _ hz))] at hover0
  have htx : tr ht 0 x = lastOf x := tr_zero fun z hz => hpos z (List.mem_append_left _ hz)
  constructor
  · intro j a b hj hs hl
    rcases append_cons_cases hs with ⟨c, rfl, rfl⟩ | ⟨a2, rfl, rfl⟩
    · have hzm : lastOf a ≠ m := by
        by_cases ha : a = []
        · subst ha; exact fun e => hm0 e.symm
        · exact fun e => hmx (e ▸ List.mem_append_left _ (lastOf_mem ha))
      have hl' : a = [] ∨ j < ht (lastOf a) := by rwa [hht _ hzm] at hl
      have hcm : ∀ z ∈ c, z ≠ m := fun z hz e => hmx (e ▸ List.mem_append_right _ hz)
      have hold := h.next j a (c ++ y) hj (by rw [List.append_assoc]) hl'
      rcases nx_part ht j c with hc | ⟨c1, z, c2, rfl, hc1, hc2, hc3⟩
      · have htr : tr ht j (a ++ c) = lastOf a := by rw [tr_append_none _ hc, tr_last hl']
        have hc' : ∀ z ∈ c, ¬ j < ht' z := fun z hz => by rw [hht z (hcm z hz)]; exact hc z hz
        rw [nx_append_none _ hc', nx]
        by_cases hjm : j < ht' m
        · rw [if_pos hjm]
          have := hn2 j hj hjm
          rwa [htr] at this
        · rw [if_neg hjm, hn3 j _ hj hzm (fun e => hjm e.1), hold, nx_append_none _ hc]
          exact (nx_congr fun z hz => hht z (fun e => hmy (e ▸ hz))).symm
      · have hz' : nx ht' j ((c1 ++ z :: c2) ++ m :: y) = z := by
          rw [List.append_assoc, nx_append_none, List.cons_append, nx, if_pos (by rw [hht z (hcm z (by simp))]; exact hc2)]
          intro u hu
          rw [hht u (hcm u (by simp [hu]))]
          exact hc1 u hu
        have hne : lastOf a ≠ tr ht j (a ++ (c1 ++ z :: c2)) := by
          obtain ⟨p, q, e1, e2, e3, e4⟩ := tr_part ht j (c1 ++ z :: c2)
          have hp : p ≠ [] := by
            rintro rfl
            rw [List.nil_append] at e1
            exact e4 z (by rw [← e1]; simp) hc2
          have hmem : tr ht j (a ++ (c1 ++ z :: c2)) ∈ c1 ++ z :: c2 := by
            rw [e1, ← List.append_assoc, tr_append_none _ e4]
            obtain ⟨p', ep⟩ := lastOf_split hp
            have hj3 := e3.resolve_left hp
            have : lastOf (a ++ p) = lastOf p := by
              rw [ep, ← List.append_assoc, lastOf_snoc, lastOf_snoc]
            rw [tr_last (Or.inr (by rw [this]; exact hj3)), this]
            exact List.mem_append_left _ (lastOf_mem hp)
          intro e
          rw [← e] at hmem
          by_cases ha : a = []
          · subst ha
            exact h0x (List.mem_append_right _ hmem)
          · have hnd1 := (List.nodup_append.1 hnd).1
            exact (List.nodup_append.1 hnd1).2.2 _ (lastOf_mem ha) _ hmem rfl
        rw [hz', hn3 j _ hj hzm (fun e => hne e.2), hold, hc3]
    · by_cases ha2 : a2 = []
      · subst ha2
        rw [lastOf_snoc] at hl ⊢
        have hjm : j < ht' m := hl.resolve_left (by simp)
        rw [hn1 j hjm hj, h.over hj, List.nil_append]
        exact (nx_congr fun z hz => hht z (fun e => hmy (e ▸ hz))).symm
      · obtain ⟨z, a3, rfl⟩ := List.exists_cons_of_ne_nil ha2
        have e1 : lastOf (x ++ m :: (z :: a3)) = lastOf (x ++ z :: a3) := by
          rw [lastOf_append_cons, lastOf_append_cons]; exact lastOf_append_cons [m] a3 z
        have hmem : lastOf (x ++ z :: a3) ∈ z :: a3 := by rw [lastOf_append_cons]; exact lastOf_mem (by simp)
        have hzm : lastOf (x ++ z :: a3) ≠ m := fun e => hmy (List.mem_append_left _ (e ▸ hmem))
        have hne : lastOf (x ++ z :: a3) ≠ tr ht j x := by
          intro e
          rcases tr_mem (ht := ht) (j := j) x with e2 | e2
          · rw [e2] at e
            exact h0y (List.mem_append_left _ (e ▸ hmem))
          · exact hdis _ e2 (List.mem_append_left _ (e ▸ hmem))
        rw [e1] at hl ⊢
        have hl' : j < ht (lastOf (x ++ z :: a3)) := by
          have := hl.resolve_left (by simp)
          rwa [hht _ hzm] at this
        rw [hn3 j _ hj hzm (fun e => hne e.2), h.next j (x ++ z :: a3) b hj (by rw [List.append_assoc]) (Or.inr hl')]
        exact (nx_congr fun z hz => hht z (fun e => hmy (e ▸ List.mem_append_right _ hz))).symm
  · intro a z b hs
    rcases append_cons_cases hs with ⟨c, rfl, hb⟩ | ⟨a2, rfl, rfl⟩
    · cases c with
      | nil =>
        rw [List.nil_append, List.cons.injEq] at hb
        obtain ⟨rfl, rfl⟩ := hb
        rw [hp1, htx, List.append_nil]
      | cons u c =>
        rw [List.cons_append, List.cons.injEq] at hb
        obtain ⟨rfl, rfl⟩ := hb
        have hzx : z ∈ a ++ z :: c := by simp
        rw [hp3 z (fun e => hmx (e ▸ hzx)) (fun e => ?_), h.prev a z (c ++ y) (by simp)]
        rw [hover0] at e
        cases y with
        | nil => exact h0x (e ▸ hzx)
        | cons w y => exact hdis z hzx (by rw [e]; simp)
    · cases a2 with
      | nil => rw [lastOf_snoc]; exact hp2 z (by rw [hover0]; rfl) (fun e => h0y (by rw [e]; simp))
      | cons u a2 =>
        have e1 : lastOf (x ++ m :: (u :: a2)) = lastOf (x ++ u :: a2) := by
          rw [lastOf_append_cons, lastOf_append_cons]; exact lastOf_append_cons [m] a2 u
        rw [e1, hp3 z (fun e => hmy (e ▸ by simp)) (fun e => ?_), h.prev (x ++ u :: a2) z b (by simp)]
        rw [hover0] at e
        have hnd2 := (List.nodup_append.1 hnd).2.1
        rw [List.cons_append, List.nodup_cons] at hnd2
        exact hnd2.1 (by rw [show u = z from e.symm]; simp)
/-- a step on a level: to the next one of the part at hand, or it ends with the last one of the part -/
theorem Links.step {ht : Nat → Nat} {nxt : Nat → Nat → Nat} {prv : Nat → Nat} {a c y : List Nat} (h : Links ht nxt prv (a ++ c ++ y)) {j : Nat} (hj : j < 12) (hl : a = [] ∨ j < ht (lastOf a)) :
    (∃ c1 c2, c = c1 ++ nxt j (lastOf a) :: c2 ∧ j < ht (nxt j (lastOf a)) ∧ ∀ u ∈ c1, ¬ j < ht u) ∨ (nxt j (lastOf a) = nx ht j y ∧ lastOf a = tr ht j (a ++ c) ∧ ∀ u ∈ c, ¬ j < ht u) := by
  have e := h.next j a (c ++ y) hj (by rw [List.append_assoc]) hl
  rcases nx_part ht j c with hc | ⟨c1, z, c2, rfl, hc1, hc2, hc3⟩
  · right
    exact ⟨by rw [e, nx_append_none _ hc], by rw [tr_append_none _ hc, tr_last hl], hc⟩
  · left
    rw [hc3] at e
    rw [e]
    exact ⟨c1, c2, rfl, hc2, hc1⟩
/-- a list in order is what is below a key, and then the rest -/
theorem sorted_part {α : Type} (lt : α → α → Bool) (trans : ∀ a b c, lt a b = true → lt b c = true → lt a c = true) (k : α) (key : Nat → α) : ∀ l : List Nat, l.Pairwise (fun a b => lt (key a) (key b) = true) →
    l = l.filter (fun z => lt (key z) k) ++ l.filter (fun z => !lt (key z) k)
  | [], _ => rfl
  | a :: l, h => by
    rw [List.pairwise_cons] at h
    have ih := sorted_part lt trans k key l h.2
    by_cases hk : lt (key a) k = true
    · rw [List.filter_cons_of_pos (by simpa using hk), List.filter_cons_of_neg (by simpa using hk), List.cons_append, ← ih]
    · have hn : ∀ z ∈ l, ¬ lt (key z) k = true := fun z hz e => hk (trans _ _ _ (h.1 z hz) e)
      have h1 : (a :: l).filter (fun z => lt (key z) k) = [] := List.filter_eq_nil_iff.2 fun z hz => by
        rcases List.mem_cons.1 hz with rfl | hz
        · exact hk
        · exact hn z hz
      have h2 : (a :: l).filter (fun z => !lt (key z) k) = a :: l := List.filter_eq_self.2 fun z hz => by
        rcases List.mem_cons.1 hz with rfl | hz
        · simpa using hk
        · simpa using hn z hz
      rw [h1, h2]; rfl

end Go.Proofs.Ytehfcafmdnfamaa.G

/- Contracts typed by hand: a skiplist as data: nodes in order of arrival, and their order -/
namespace Go.Proofs.Ytehfcafmdnfamaa.G
open Go.RowKit Go.Proofs.YtehfcafmdnfamaaW.PrintWords Go.Proofs.YtehfcafmdnfamaaW.PrintLast Go.Proofs.YtehfcafmdnfamaaW.PrintMore
attribute [local go_sem] max2_int min2_int max_two min_two max_three min_three max_four min_four
set_option linter.unusedVariables false
set_option linter.unusedSimpArgs false

/-! a skiplist as data: nodes in order of arrival, and their order -/
/-- an internal key: its text, its number, its kind -/
abbrev IK := ByteArray × Int × Int
def kl (a b : IK) : Bool := decide (kc a.1.toList a.2.1 a.2.2 b.1.toList b.2.1 b.2.2 < 0)
theorem ba_ext {a b : ByteArray} (h : a.toList = b.toList) : a = b := by
  rw [Lib.toList_data, Lib.toList_data] at h
  cases a; cases b
  congr 1
  exact Array.toList_inj.1 h
theorem kc_zero {a b : IK} : kc a.1.toList a.2.1 a.2.2 b.1.toList b.2.1 b.2.2 = 0 ↔ a = b := by
  rw [kc_iff]
  constructor
  · rintro ⟨h1, h2, h3⟩
    obtain ⟨a1, a2, a3⟩ := a
    obtain ⟨b1, b2, b3⟩ := b
    simp only [] at h1 h2 h3
    rw [ba_ext h1, h2, h3]
  · rintro rfl
    exact ⟨rfl, rfl, rfl⟩
theorem kl_trans (a b c : IK) (h : kl a b = true) (g : kl b c = true) : kl a c = true := by
  unfold kl at *
  rw [decide_eq_true_eq] at *
  exact kc_trans h g
theorem kl_irr (a : IK) : kl a a = false := by
  unfold kl
  rw [kc_self]; rfl
theorem kl_asymm {a b : IK} (h : kl a b = true) : kl b a = false := by
  unfold kl at *
  rw [decide_eq_true_eq] at h
  rw [kc_anti a.1.toList]
  simp; omega
theorem kl_eq {a b : IK} (h : kl a b = false) (g : kl b a = false) : a = b := by
  apply kc_zero.1
  unfold kl at h g
  rw [kc_anti a.1.toList] at g
  simp only [decide_eq_false_iff_not] at h g
  omega
def noK : IK := (⟨#[]⟩, 0, 0)
/-- a list: its nodes as they came (key, what belongs to it, height), their numbers in order -/
structure SL (V : Type) where
  nodes : List (IK × V × Nat)
  order : List Nat
namespace SL
variable {V : Type}
def key (S : SL V) (z : Nat) : IK := match S.nodes[z - 1]? with | some x => x.1 | none => noK
def ht (S : SL V) (z : Nat) : Nat := match S.nodes[z - 1]? with | some x => x.2.2 | none => 0
def below (S : SL V) (k : IK) : List Nat := S.order.filter fun z => kl (S.key z) k
def rest (S : SL V) (k : IK) : List Nat := S.order.filter fun z => !kl (S.key z) k
def seek (S : SL V) (k : IK) : Nat := (S.rest k).headD 0
def before (S : SL V) (k : IK) : Nat := lastOf (S.below k)
def find (S : SL V) (k : IK) : Nat := if S.seek k ≠ 0 ∧ S.key (S.seek k) = k then S.seek k else 0
def height (S : SL V) : Nat := S.nodes.foldl (fun h x => max h x.2.2) 0
def links (S : SL V) (j : Nat) : List Nat := S.order.filter fun z => decide (j < S.ht z)
def put (S : SL V) (k : IK) (v : V) (h : Nat) : SL V := ⟨S.nodes ++ [(k, v, h)], S.below k ++ (S.nodes.length + 1) :: S.rest k⟩
def nil : SL V := ⟨[], []⟩
structure Fine (S : SL V) : Prop where
  len : S.order.length = S.nodes.length
  mem : ∀ z ∈ S.order, 1 ≤ z ∧ z ≤ S.nodes.length
  nodup : S.order.Nodup
  rise : S.order.Pairwise fun a b => kl (S.key a) (S.key b) = true
  hts : ∀ x ∈ S.nodes, 1 ≤ x.2.2 ∧ x.2.2 ≤ 12
  all : ∀ z, 1 ≤ z → z ≤ S.nodes.length → z ∈ S.order
theorem fine_nil : (nil : SL V).Fine :=
  ⟨rfl, (fun z h => by cases h), List.nodup_nil, List.Pairwise.nil, (fun x h => by cases h), fun z h1 h2 => absurd (show z ≤ 0 from h2) (by omega)⟩
theorem part {S : SL V} (h : S.Fine) (k : IK) : S.order = S.below k ++ S.rest k := sorted_part kl kl_trans k S.key S.order h.rise
theorem key_put (S : SL V) (k : IK) (v : V) (h : Nat) {z : Nat} (h1 : 1 ≤ z) (h2 : z ≤ S.nodes.length) : (S.put k v h).key z = S.key z := by
  unfold key put
  simp only []
  rw [List.getElem?_append_left (by omega)]
theorem ht_put (S : SL V) (k : IK) (v : V) (h : Nat) {z : Nat} (h1 : 1 ≤ z) (h2 : z ≤ S.nodes.length) : (S.put k v h).ht z = S.ht z := by
  unfold ht put
  simp only []
  rw [List.getElem?_append_left (by omega)]
theorem key_new (S : SL V) (k : IK) (v : V) (h : Nat) : (S.put k v h).key (S.nodes.length + 1) = k := by
  unfold key put
  simp
theorem ht_new (S : SL V) (k : IK) (v : V) (h : Nat) : (S.put k v h).ht (S.nodes.length + 1) = h := by
  unfold ht put
  simp
theorem ht_pos {S : SL V} (h : S.Fine) {z : Nat} (hz : z ∈ S.order) : 1 ≤ S.ht z ∧ S.ht z ≤ 12 := by
  have hm := h.mem z hz
  have hl : z - 1 < S.nodes.length := by omega
  unfold ht
  rw [List.getElem?_eq_getElem hl]
  exact h.hts _ (List.getElem_mem hl)
theorem mem_below {S : SL V} {k : IK} {z : Nat} (h : z ∈ S.below k) : z ∈ S.order ∧ kl (S.key z) k = true := by
  unfold below at h
  exact List.mem_filter.1 h
theorem mem_rest {S : SL V} {k : IK} {z : Nat} (h : z ∈ S.rest k) : z ∈ S.order ∧ kl (S.key z) k = false := by
  unfold rest at h
  have := List.mem_filter.1 h
  exact ⟨this.1, by simpa using this.2⟩
/-- the first that is not below is the key's own, or above it -/
theorem find_none {S : SL V} (hS : S.Fine) {k : IK} (h : S.find k = 0) : ∀ z ∈ S.order, S.key z ≠ k := by
  intro z hz e
  have hr : z ∈ S.rest k := by
    unfold rest
    exact List.mem_filter.2 ⟨hz, by rw [e, kl_irr]; rfl⟩
  have hp := S.part hS k
  have hpw := hS.rise
  rw [hp] at hpw
  have hpr := (List.pairwise_append.1 hpw).2.1
  cases hrest : S.rest k with
  | nil => rw [hrest] at hr; cases hr
  | cons a l =>
    have hs : S.seek k = a := by unfold seek; rw [hrest]; rfl
    have ham := (mem_rest (S := S) (k := k) (z := a) (by rw [hrest]; exact List.mem_cons_self ..))
    have ha1 := hS.mem a ham.1
    have hka : S.key a = k := by
      rw [hrest, List.pairwise_cons] at hpr
      rw [hrest] at hr
      rcases List.mem_cons.1 hr with rfl | hr
      · exact e
      · have := hpr.1 z hr
        rw [e] at this
        rw [ham.2] at this
        cases this
    unfold find at h
    rw [hs, if_pos ⟨by omega, hka⟩] at h
    omega
theorem fine_put {S : SL V} (hS : S.Fine) {k : IK} (hk : S.find k = 0) (v : V) {h : Nat} (h1 : 1 ≤ h) (h2 : h ≤ 12) : (S.put k v h).Fine := by
  have hp := S.part hS k
  have hmb : ∀ z ∈ S.below k, 1 ≤ z ∧ z ≤ S.nodes.length := fun z hz => hS.mem z (mem_below hz).1
  have hmr : ∀ z ∈ S.rest k, 1 ≤ z ∧ z ≤ S.nodes.length := fun z hz => hS.mem z (mem_rest hz).1
  have hnl : (S.put k v h).nodes.length = S.nodes.length + 1 := by unfold put; simp
  have hol := hS.len
  rw [hp, List.length_append] at hol
  have hpw := hS.rise
  rw [hp] at hpw
  obtain ⟨p1, p2, p3⟩ := List.pairwise_append.1 hpw
  have hnd := hS.nodup
  rw [hp] at hnd
  obtain ⟨n1, n2, n3⟩ := List.nodup_append.1 hnd
  refine ⟨?_, ?_, ?_, ?_, ?_, ?_⟩
  · rw [hnl]
    show (S.below k ++ (S.nodes.length + 1) :: S.rest k).length = _
    rw [List.length_append, List.length_cons]; omega
  · intro z hz
    rw [hnl]
    rcases List.mem_append.1 (show z ∈ S.below k ++ (S.nodes.length + 1) :: S.rest k from hz) with hz | hz
    · have := hmb z hz; omega
    · rcases List.mem_cons.1 hz with rfl | hz
      · omega
      · have := hmr z hz; omega
  · show (S.below k ++ (S.nodes.length + 1) :: S.rest k).Nodup
    refine List.nodup_append.2 ⟨n1, List.nodup_cons.2 ⟨fun e => by have := hmr _ e; omega, n2⟩, ?_⟩
    intro a ha b hb e
    subst e
    rcases List.mem_cons.1 hb with e | hb
    · have := hmb a ha; omega
    · exact n3 a ha a hb rfl
  · show List.Pairwise _ (S.below k ++ (S.nodes.length + 1) :: S.rest k)
    have kb : ∀ z ∈ S.below k, (S.put k v h).key z = S.key z := fun z hz => S.key_put k v h (hmb z hz).1 (hmb z hz).2
    have kr : ∀ z ∈ S.rest k, (S.put k v h).key z = S.key z := fun z hz => S.key_put k v h (hmr z hz).1 (hmr z hz).2
    have hr2 : ∀ z ∈ S.rest k, kl k (S.key z) = true := fun z hz => by
      cases e : kl k (S.key z) with
      | true => rfl
      | false => exact absurd (kl_eq (mem_rest hz).2 e) (find_none hS hk z (mem_rest hz).1)
    refine List.pairwise_append.2 ⟨p1.imp_of_mem fun {a b} ha hb e => by rw [kb a ha, kb b hb]; exact e, List.pairwise_cons.2 ⟨fun z hz => ?_, p2.imp_of_mem fun {a b} ha hb e => by rw [kr a ha, kr b hb]; exact e⟩, ?_⟩
    · rw [kr z hz, key_new]; exact hr2 z hz
    · intro a ha b hb
      rw [kb a ha]
      rcases List.mem_cons.1 hb with rfl | hb
      · rw [key_new]; exact (mem_below ha).2
      · rw [kr b hb]; exact p3 a ha b hb
  · intro x hx
    rcases List.mem_append.1 (show x ∈ S.nodes ++ [(k, v, h)] from hx) with hx | hx
    · exact hS.hts x hx
    · rw [List.mem_singleton.1 hx]; exact ⟨h1, h2⟩
  · intro z hz1 hz2
    rw [hnl] at hz2
    show z ∈ S.below k ++ (S.nodes.length + 1) :: S.rest k
    by_cases e : z = S.nodes.length + 1
    · subst e; simp
    · have := hS.all z hz1 (by omega)
      rw [hp] at this
      rcases List.mem_append.1 this with h | h
      · exact List.mem_append_left _ h
      · exact List.mem_append_right _ (List.mem_cons_of_mem _ h)
theorem height_put (S : SL V) (k : IK) (v : V) (h : Nat) : (S.put k v h).height = max S.height h := by
  unfold height put
  rw [List.foldl_append]; rfl
theorem foldl_max_ge (l : List (IK × V × Nat)) : ∀ (h : Nat), h ≤ l.foldl (fun h x => max h x.2.2) h ∧ ∀ x ∈ l, x.2.2 ≤ l.foldl (fun h x => max h x.2.2) h := by
  induction l with
  | nil => intro h; exact ⟨Nat.le_refl _, fun x hx => by cases hx⟩
  | cons y l ih =>
    intro h
    obtain ⟨a, b⟩ := ih (max h y.2.2)
    rw [List.foldl_cons]
    refine ⟨Nat.le_trans (Nat.le_max_left _ _) a, fun x hx => ?_⟩
    rcases List.mem_cons.1 hx with rfl | hx
    · exact Nat.le_trans (Nat.le_max_right _ _) a
    · exact b x hx
theorem foldl_max_or (l : List (IK × V × Nat)) : ∀ (h : Nat), l.foldl (fun h x => max h x.2.2) h = h ∨ ∃ x ∈ l, l.foldl (fun h x => max h x.2.2) h = x.2.2 := by
  induction l with
  | nil => intro h; exact Or.inl rfl
  | cons y l ih =>
    intro h
    rw [List.foldl_cons]
    rcases ih (max h y.2.2) with e | ⟨x, hx, e⟩
    · rw [e]
      rcases Nat.le_total h y.2.2 with hl | hl
      · right; exact ⟨y, List.mem_cons_self .., Nat.max_eq_right hl⟩
      · left; exact Nat.max_eq_left hl
    · right; exact ⟨x, List.mem_cons_of_mem _ hx, e⟩
theorem ht_le {S : SL V} (hS : S.Fine) {z : Nat} (hz : z ∈ S.order) : S.ht z ≤ S.height := by
  have hm := hS.mem z hz
  have hl : z - 1 < S.nodes.length := by omega
  unfold ht
  rw [List.getElem?_eq_getElem hl]
  exact (foldl_max_ge S.nodes 0).2 _ (List.getElem_mem hl)
theorem height_le {S : SL V} (hS : S.Fine) : S.height ≤ 12 := by
  rcases foldl_max_or S.nodes 0 with e | ⟨x, hx, e⟩
  · unfold height; rw [e]; omega
  · unfold height; rw [e]; exact (hS.hts x hx).2
end SL

end Go.Proofs.Ytehfcafmdnfamaa.G

/- Contracts typed by hand: a skiplist in memory: its nodes, plain -/
namespace Go.Proofs.Ytehfcafmdnfamaa.G
open Go.RowKit Go.Proofs.YtehfcafmdnfamaaW.PrintWords Go.Proofs.YtehfcafmdnfamaaW.PrintLast Go.Proofs.YtehfcafmdnfamaaW.PrintMore
attribute [local go_sem] max2_int min2_int max_two min_two max_three min_three max_four min_four
set_option linter.unusedVariables false
set_option linter.unusedSimpArgs false

/-! a skiplist in memory: its nodes, plain -/
/-- a node as it lies in memory -/
structure ND (V : Type) where
  key : IK
  val : V
  ht : Nat
  next : List Nat
  prev : Nat
section
variable {V : Type}
def nxtOf (ns : List (ND V)) (j z : Nat) : Nat := match ns[z]? with | some x => x.next.getD j 0 | none => 0
def prvOf (ns : List (ND V)) (z : Nat) : Nat := match ns[z]? with | some x => x.prev | none => 0
/-- the nodes in memory are those of a list -/
structure Mem (S : SL V) (ns : List (ND V)) : Prop where
  len : ns.length = S.nodes.length + 1
  node : ∀ z x, 1 ≤ z → ns[z]? = some x → S.nodes[z - 1]? = some (x.key, x.val, x.ht)
  nx12 : ∀ x ∈ ns, x.next.length = 12
  lim : ∀ x ∈ ns, (∀ y ∈ x.next, y < ns.length) ∧ x.prev < ns.length
  links : Links S.ht (nxtOf ns) (prvOf ns) S.order
/-- a link is laid -/
def updN (ns : List (ND V)) (z j n : Nat) : List (ND V) := match ns[z]? with | some x => ns.set z { x with next := x.next.set j n } | none => ns
def updP (ns : List (ND V)) (z n : Nat) : List (ND V) := match ns[z]? with | some x => ns.set z { x with prev := n } | none => ns
theorem updN_len (ns : List (ND V)) (z j n : Nat) : (updN ns z j n).length = ns.length := by
  unfold updN; split <;> simp
theorem updP_len (ns : List (ND V)) (z n : Nat) : (updP ns z n).length = ns.length := by
  unfold updP; split <;> simp
/-- what a node is behind a link's laying -/
theorem updN_get (ns : List (ND V)) (z j n z' : Nat) : (updN ns z j n)[z']? = if z' = z then (ns[z]?).map (fun x => { x with next := x.next.set j n }) else ns[z']? := by
  unfold updN
  by_cases h : z' = z
  · subst h
    rw [if_pos rfl]
    cases e : ns[z']? with
    | none => simp [e]
    | some x =>
      have := (List.getElem?_eq_some_iff.1 e).1
      simp [List.getElem?_set_self this]
  · rw [if_neg h]
    split
    · rw [List.getElem?_set_ne (Ne.symm h)]
    · rfl
theorem updP_get (ns : List (ND V)) (z n z' : Nat) : (updP ns z n)[z']? = if z' = z then (ns[z]?).map (fun x => { x with prev := n }) else ns[z']? := by
  unfold updP
  by_cases h : z' = z
  · subst h
    rw [if_pos rfl]
    cases e : ns[z']? with
    | none => simp [e]
    | some x =>
      have := (List.getElem?_eq_some_iff.1 e).1
      simp [List.getElem?_set_self this]
  · rw [if_neg h]
    split
    · rw [List.getElem?_set_ne (Ne.symm h)]
    · rfl
theorem nxt_updN {ns : List (ND V)} (h12 : ∀ x ∈ ns, x.next.length = 12) {z j n : Nat} (hz : z < ns.length) (hj : j < 12) (j' z' : Nat) : nxtOf (updN ns z j n) j' z' = if j' = j ∧ z' = z then n else nxtOf ns j' z' := by
  unfold nxtOf
  rw [updN_get]
  by_cases h : z' = z
  · subst h
    rw [if_pos rfl, List.getElem?_eq_getElem hz]
    simp only [Option.map_some]
    have h1 := h12 _ (List.getElem_mem hz)
    by_cases hjj : j' = j
    · subst hjj
      rw [if_pos (by simp), List.getD_eq_getElem?_getD, List.getElem?_set_self (by omega)]; rfl
    · rw [if_neg (fun e => hjj e.1), List.getD_eq_getElem?_getD, List.getElem?_set_ne (Ne.symm hjj), List.getD_eq_getElem?_getD]
  · rw [if_neg h, if_neg (fun e => h e.2)]
theorem prv_updN (ns : List (ND V)) (z j n z' : Nat) : prvOf (updN ns z j n) z' = prvOf ns z' := by
  unfold prvOf
  rw [updN_get]
  by_cases h : z' = z
  · subst h
    rw [if_pos rfl]
    cases ns[z']? <;> rfl
  · rw [if_neg h]
theorem prv_updP {ns : List (ND V)} {z n : Nat} (hz : z < ns.length) (z' : Nat) : prvOf (updP ns z n) z' = if z' = z then n else prvOf ns z' := by
  unfold prvOf
  rw [updP_get]
  by_cases h : z' = z
  · subst h
    rw [if_pos rfl, if_pos rfl, List.getElem?_eq_getElem hz]; rfl
  · rw [if_neg h, if_neg h]
theorem nxt_updP (ns : List (ND V)) (z n j z' : Nat) : nxtOf (updP ns z n) j z' = nxtOf ns j z' := by
  unfold nxtOf
  rw [updP_get]
  by_cases h : z' = z
  · subst h
    rw [if_pos rfl]
    cases ns[z']? <;> rfl
  · rw [if_neg h]
/-- the links of the first levels laid -/
def iterL (ns : List (ND V)) (t : Nat → Nat) (n : Nat) : Nat → List (ND V)
  | 0 => ns
  | m + 1 => updN (iterL ns t n m) (t m) m n
def iterX (ns : List (ND V)) (t : Nat → Nat) (n : Nat) : Nat → List Nat
  | 0 => List.replicate 12 0
  | m + 1 => (iterX ns t n m).set m (nxtOf (iterL ns t n m) m (t m))
theorem iterL_len (ns : List (ND V)) (t : Nat → Nat) (n : Nat) : ∀ m, (iterL ns t n m).length = ns.length
  | 0 => rfl
  | m + 1 => by rw [iterL, updN_len, iterL_len ns t n m]
theorem iterX_len (ns : List (ND V)) (t : Nat → Nat) (n : Nat) : ∀ m, (iterX ns t n m).length = 12
  | 0 => by simp [iterX]
  | m + 1 => by rw [iterX, List.length_set, iterX_len ns t n m]
/-- all else of a node stays -/
theorem iterL_get (ns : List (ND V)) (t : Nat → Nat) (n : Nat) : ∀ (m z : Nat) (x : ND V), (iterL ns t n m)[z]? = some x → ∃ y : ND V, ns[z]? = some y ∧ y.key = x.key ∧ y.val = x.val ∧ y.ht = x.ht ∧ y.prev = x.prev ∧ y.next.length = x.next.length ∧ ∀ u ∈ x.next, u ∈ y.next ∨ u = n
  | 0, z, x, h => ⟨x, h, rfl, rfl, rfl, rfl, rfl, fun u hu => Or.inl hu⟩
  | m + 1, z, x, h => by
    rw [iterL, updN_get] at h
    by_cases hz : z = t m
    · rw [if_pos hz] at h
      cases e : (iterL ns t n m)[t m]? with
      | none => rw [e] at h; cases h
      | some x' =>
        rw [e] at h
        simp only [Option.map_some, Option.some.injEq] at h
        subst h
        obtain ⟨y, h1, h2, h3, h4, h5, h6, h7⟩ := iterL_get ns t n m z x' (by rw [hz]; exact e)
        refine ⟨y, h1, h2, h3, h4, h5, by simp only []; rw [List.length_set]; exact h6, fun u hu => ?_⟩
        rcases List.mem_or_eq_of_mem_set hu with hu | hu
        · exact h7 u hu
        · exact Or.inr hu
    · rw [if_neg hz] at h
      exact iterL_get ns t n m z x h
theorem iterL_12 {ns : List (ND V)} (h12 : ∀ x ∈ ns, x.next.length = 12) (t : Nat → Nat) (n m : Nat) : ∀ x ∈ iterL ns t n m, x.next.length = 12 := by
  intro x hx
  obtain ⟨i, hi⟩ := List.mem_iff_getElem?.1 hx
  obtain ⟨y, h1, _, _, _, _, h6, _⟩ := iterL_get ns t n m i x hi
  rw [← h6]
  exact h12 y (List.mem_of_getElem? h1)
theorem nxt_iterL {ns : List (ND V)} (h12 : ∀ x ∈ ns, x.next.length = 12) {t : Nat → Nat} (ht : ∀ j, t j < ns.length) (n : Nat) : ∀ m, m ≤ 12 → ∀ j z, nxtOf (iterL ns t n m) j z = if j < m ∧ z = t j then n else nxtOf ns j z
  | 0, _, j, z => by rw [iterL, if_neg (by omega)]
  | m + 1, hm, j, z => by
    rw [iterL, nxt_updN (iterL_12 h12 t n m) (by rw [iterL_len]; exact ht m) (by omega), nxt_iterL h12 ht n m (by omega)]
    by_cases h : j = m ∧ z = t m
    · rw [if_pos h, if_pos ⟨by omega, by rw [h.1]; exact h.2⟩]
    · rw [if_neg h]
      by_cases h2 : j < m ∧ z = t j
      · rw [if_pos h2, if_pos ⟨by omega, h2.2⟩]
      · rw [if_neg h2, if_neg (fun e => by
          by_cases hj : j = m
          · exact h ⟨hj, by rw [← hj]; exact e.2⟩
          · exact h2 ⟨by omega, e.2⟩)]
theorem prv_iterL (ns : List (ND V)) (t : Nat → Nat) (n : Nat) : ∀ m z, prvOf (iterL ns t n m) z = prvOf ns z
  | 0, _ => rfl
  | m + 1, z => by rw [iterL, prv_updN, prv_iterL ns t n m]
theorem iterX_get {ns : List (ND V)} (h12 : ∀ x ∈ ns, x.next.length = 12) {t : Nat → Nat} (ht : ∀ j, t j < ns.length) (n : Nat) : ∀ m, m ≤ 12 → ∀ j, (iterX ns t n m).getD j 0 = if j < m then nxtOf ns j (t j) else 0
  | 0, _, j => by
    rw [iterX, if_neg (by omega), List.getD_eq_getElem?_getD]
    by_cases h : j < 12
    · rw [List.getElem?_replicate, if_pos h]; rfl
    · rw [List.getElem?_replicate, if_neg h]; rfl
  | m + 1, hm, j => by
    rw [iterX, nxt_iterL h12 ht n m (by omega), if_neg (by omega), List.getD_eq_getElem?_getD]
    by_cases h : j = m
    · subst h
      rw [List.getElem?_set_self (by rw [iterX_len]; omega), if_pos (by omega)]; rfl
    · rw [List.getElem?_set_ne (Ne.symm h), ← List.getD_eq_getElem?_getD, iterX_get h12 ht n m (by omega)]
      by_cases h2 : j < m
      · rw [if_pos h2, if_pos (by omega)]
      · rw [if_neg h2, if_neg (by omega)]
/-- the nodes behind an insertion -/
def putN (S : SL V) (ns : List (ND V)) (k : IK) (v : V) (h : Nat) : List (ND V) :=
  let t := fun j => tr S.ht j (S.below k)
  let x : ND V := ⟨k, v, h, iterX ns t ns.length h, t 0⟩
  let ns2 := iterL ns t ns.length h ++ [x]
  let b := x.next.getD 0 0
  if b = 0 then ns2 else updP ns2 b ns.length
theorem tr_lt {S : SL V} (hS : S.Fine) (j : Nat) (k : IK) : tr S.ht j (S.below k) < S.nodes.length + 1 := by
  rcases tr_mem (ht := S.ht) (j := j) (S.below k) with e | e
  · omega
  · have := hS.mem _ (SL.mem_below e).1
    omega
theorem mem_nil (k : IK) (v : V) (h p : Nat) (hp : p = 0) : Mem (SL.nil : SL V) [⟨k, v, h, List.replicate 12 0, p⟩] := by
  refine ⟨rfl, fun z x hz h => ?_, fun x hx => ?_, fun x hx => ?_, ⟨fun j a b hj e hl => ?_, fun a y b e => ?_⟩⟩
  · rw [List.getElem?_eq_none (by simp; omega)] at h
    cases h
  · rw [List.mem_singleton.1 hx]; simp
  · rw [List.mem_singleton.1 hx]
    refine ⟨fun y hy => ?_, ?_⟩
    · rw [(List.mem_replicate.1 hy).2]; simp
    · simp [hp]
  · have ⟨ha, hb⟩ := List.append_eq_nil_iff.1 (show ([] : List Nat) = a ++ b from e).symm
    subst ha hb
    show nxtOf _ j 0 = nx _ j []
    simp only [nxtOf, List.getElem?_cons_zero, nx]
    rw [List.getD_eq_getElem?_getD, List.getElem?_replicate, if_pos hj]; rfl
  · have := congrArg List.length (show ([] : List Nat) = a ++ y :: b from e)
    simp at this
theorem getD_mem {l : List Nat} {j : Nat} : l.getD j 0 = 0 ∨ l.getD j 0 ∈ l := by
  rw [List.getD_eq_getElem?_getD]
  cases e : l[j]? with
  | none => exact Or.inl rfl
  | some x => exact Or.inr (List.mem_of_getElem? e)
theorem Mem.nxt_lt {S : SL V} {ns : List (ND V)} (h : Mem S ns) (j z : Nat) : nxtOf ns j z < ns.length := by
  have hl := h.len
  unfold nxtOf
  cases e : ns[z]? with
  | none => simp only []; omega
  | some x =>
    simp only []
    rcases getD_mem (l := x.next) (j := j) with h0 | h1
    · rw [h0]; omega
    · exact (h.lim x (List.mem_of_getElem? e)).1 _ h1
theorem Mem.put {S : SL V} (hS : S.Fine) {ns : List (ND V)} (hM : Mem S ns) {k : IK} (v : V) {h : Nat} (h1 : 1 ≤ h) (h2 : h ≤ 12) : Mem (S.put k v h) (putN S ns k v h) := by
  have hl := hM.len
  have htl : ∀ j, tr S.ht j (S.below k) < ns.length := fun j => by rw [hl]; exact tr_lt hS j k
  obtain ⟨t, ht⟩ : ∃ t, (fun j => tr S.ht j (S.below k)) = t := ⟨_, rfl⟩
  have htj : ∀ j, tr S.ht j (S.below k) = t j := fun j => by rw [← ht]
  have htl' : ∀ j, t j < ns.length := fun j => by rw [← htj]; exact htl j
  have hn1 := nxt_iterL hM.nx12 htl' ns.length h (by omega)
  have hx1 := iterX_get hM.nx12 htl' ns.length h (by omega)
  obtain ⟨X, hX⟩ : ∃ X, iterX ns t ns.length h = X := ⟨_, rfl⟩
  have hXl : X.length = 12 := by rw [← hX]; exact iterX_len ..
  obtain ⟨L, hL⟩ : ∃ L, iterL ns t ns.length h = L := ⟨_, rfl⟩
  have hLl : L.length = ns.length := by rw [← hL]; exact iterL_len ..
  have hLg := iterL_get ns t ns.length h
  have hLp := prv_iterL ns t ns.length h
  rw [hX] at hx1
  rw [hL] at hn1 hLg hLp
  have hb : X.getD 0 0 = nxtOf ns 0 (t 0) := by rw [hx1, if_pos (by omega)]
  have hblt : X.getD 0 0 < ns.length := by rw [hb]; exact hM.nxt_lt 0 _
  have hXlim : ∀ y ∈ X, y < ns.length + 1 := by
    intro y hy
    obtain ⟨i, hi, rfl⟩ := List.mem_iff_getElem.1 hy
    have := hx1 i
    rw [List.getD_eq_getElem?_getD, List.getElem?_eq_getElem hi] at this
    simp only [Option.getD_some] at this
    rw [this]
    split
    · have := hM.nxt_lt i (t i); omega
    · omega
  obtain ⟨R, hR⟩ : ∃ R, putN S ns k v h = R := ⟨_, rfl⟩
  have hRe : R = if X.getD 0 0 = 0 then L ++ [⟨k, v, h, X, t 0⟩] else updP (L ++ [⟨k, v, h, X, t 0⟩]) (X.getD 0 0) ns.length := by
    rw [← hR]
    unfold putN
    simp only []
    rw [ht, hX, hL, htj]
  have hRl : R.length = ns.length + 1 := by
    rw [hRe]
    split
    · simp [hLl]
    · rw [updP_len]; simp [hLl]
  -- a node of the new ones
  have hRg : ∀ (z : Nat) (x : ND V), R[z]? = some x → (z = ns.length ∧ x.key = k ∧ x.val = v ∧ x.ht = h ∧ x.next = X ∧ x.prev = t 0) ∨ (z < ns.length ∧ ∃ y : ND V, L[z]? = some y ∧ y.key = x.key ∧ y.val = x.val ∧ y.ht = x.ht ∧ y.next = x.next ∧ (x.prev = y.prev ∨ x.prev = ns.length)) := by
    intro z x hx
    have base : ∀ (z : Nat) (x : ND V), (L ++ [(⟨k, v, h, X, t 0⟩ : ND V)])[z]? = some x → (z = ns.length ∧ x = ⟨k, v, h, X, t 0⟩) ∨ (z < ns.length ∧ L[z]? = some x) := by
      intro z x hx
      by_cases hz : z < ns.length
      · right
        rw [List.getElem?_append_left (by omega)] at hx
        exact ⟨hz, hx⟩
      · left
        have hzl := (List.getElem?_eq_some_iff.1 hx).1
        rw [List.length_append, hLl] at hzl
        have hz2 : z = L.length := by simp at hzl; omega
        subst hz2
        rw [List.getElem?_concat_length] at hx
        exact ⟨by omega, (Option.some.inj hx).symm⟩
    rw [hRe] at hx
    by_cases h0 : X.getD 0 0 = 0
    · rw [if_pos h0] at hx
      rcases base z x hx with ⟨e, rfl⟩ | ⟨hz, hx⟩
      · exact Or.inl ⟨e, rfl, rfl, rfl, rfl, rfl⟩
      · exact Or.inr ⟨hz, x, hx, rfl, rfl, rfl, rfl, Or.inl rfl⟩
    · rw [if_neg h0, updP_get] at hx
      by_cases hz : z = X.getD 0 0
      · rw [if_pos hz] at hx
        cases e : (L ++ [(⟨k, v, h, X, t 0⟩ : ND V)])[X.getD 0 0]? with
        | none => rw [e] at hx; cases hx
        | some y =>
          rw [e] at hx
          simp only [Option.map_some, Option.some.injEq] at hx
          subst hx
          rcases base _ y e with ⟨e', _⟩ | ⟨hz', hy⟩
          · omega
          · exact Or.inr ⟨by omega, y, by rw [hz]; exact hy, rfl, rfl, rfl, rfl, Or.inr rfl⟩
      · rw [if_neg hz] at hx
        rcases base z x hx with ⟨e, rfl⟩ | ⟨hz, hx⟩
        · exact Or.inl ⟨e, rfl, rfl, rfl, rfl, rfl⟩
        · exact Or.inr ⟨hz, x, hx, rfl, rfl, rfl, rfl, Or.inl rfl⟩
  have hRn : ∀ j z, z < ns.length → nxtOf R j z = nxtOf L j z := by
    intro j z hz
    have h3 : nxtOf (L ++ [(⟨k, v, h, X, t 0⟩ : ND V)]) j z = nxtOf L j z := by
      unfold nxtOf
      rw [List.getElem?_append_left (by omega)]
    rw [hRe]
    split
    · exact h3
    · rw [nxt_updP]; exact h3
  have hRm : ∀ j, nxtOf R j ns.length = X.getD j 0 := by
    intro j
    have h3 : nxtOf (L ++ [(⟨k, v, h, X, t 0⟩ : ND V)]) j ns.length = X.getD j 0 := by
      unfold nxtOf
      rw [← hLl, List.getElem?_concat_length]
    rw [hRe]
    split
    · exact h3
    · rw [nxt_updP]; exact h3
  have hRp : ∀ z, z < ns.length → prvOf R z = if X.getD 0 0 ≠ 0 ∧ z = X.getD 0 0 then ns.length else prvOf ns z := by
    intro z hz
    have h3 : prvOf (L ++ [(⟨k, v, h, X, t 0⟩ : ND V)]) z = prvOf ns z := by
      rw [← hLp z]
      unfold prvOf
      rw [List.getElem?_append_left (by omega)]
    rw [hRe]
    by_cases h0 : X.getD 0 0 = 0
    · rw [if_pos h0, if_neg (fun e => e.1 h0), h3]
    · rw [if_neg h0, prv_updP (by rw [List.length_append, hLl]; omega), h3]
      by_cases hz : z = X.getD 0 0
      · rw [if_pos hz, if_pos ⟨h0, hz⟩]
      · rw [if_neg hz, if_neg (fun e => hz e.2)]
  have hRpm : prvOf R ns.length = t 0 := by
    have h3 : prvOf (L ++ [(⟨k, v, h, X, t 0⟩ : ND V)]) ns.length = t 0 := by
      unfold prvOf
      rw [← hLl, List.getElem?_concat_length]
    rw [hRe]
    by_cases h0 : X.getD 0 0 = 0
    · rw [if_pos h0, h3]
    · rw [if_neg h0, prv_updP (by rw [List.length_append, hLl]; omega), h3, if_neg (by omega)]
  rw [hR]
  have hpn : (S.put k v h).nodes = S.nodes ++ [(k, v, h)] := rfl
  refine ⟨?_, ?_, ?_, ?_, ?_⟩
  · rw [hRl, hpn]; simp; omega
  · intro z x hz hx
    rw [hpn]
    rcases hRg z x hx with ⟨e, a1, a2, a3, _, _⟩ | ⟨hz2, y, hy, a1, a2, a3, _, _⟩
    · rw [show z - 1 = S.nodes.length by omega, List.getElem?_concat_length, a1, a2, a3]
    · obtain ⟨y', b1, b2, b3, b4, _⟩ := hLg z y hy
      rw [List.getElem?_append_left (by omega), hM.node z y' hz b1, b2, b3, b4, a1, a2, a3]
  · intro x hx
    obtain ⟨i, hi⟩ := List.mem_iff_getElem?.1 hx
    rcases hRg i x hi with ⟨_, _, _, _, a4, _⟩ | ⟨_, y, hy, _, _, _, a4, _⟩
    · rw [a4]; exact hXl
    · obtain ⟨y', b1, _, _, _, _, b6, _⟩ := hLg i y hy
      rw [← a4, ← b6]
      exact hM.nx12 y' (List.mem_of_getElem? b1)
  · intro x hx
    rw [hRl]
    obtain ⟨i, hi⟩ := List.mem_iff_getElem?.1 hx
    rcases hRg i x hi with ⟨_, _, _, _, a4, a5⟩ | ⟨_, y, hy, _, _, _, a4, a5⟩
    · rw [a4, a5]
      have := htl' 0
      exact ⟨hXlim, by omega⟩
    · obtain ⟨y', b1, _, _, _, b5, b6, b7⟩ := hLg i y hy
      have hlim := hM.lim y' (List.mem_of_getElem? b1)
      refine ⟨fun u hu => ?_, ?_⟩
      · rw [← a4] at hu
        rcases b7 u hu with h | h
        · have := hlim.1 u h; omega
        · omega
      · rcases a5 with h | h
        · rw [h, ← b5]; have := hlim.2; omega
        · omega
  · have hp := S.part hS k
    have hLk := hM.links
    rw [hp] at hLk
    have hmem : ∀ z ∈ S.below k ++ S.rest k, 1 ≤ z ∧ z ≤ S.nodes.length := fun z hz => hS.mem z (by rw [hp]; exact hz)
    have hnz : ∀ z, z ≠ ns.length → z < ns.length ∨ ns.length < z := fun z h => by omega
    have hout : ∀ z, ns.length < z → R[z]? = none ∧ ns[z]? = none := fun z h => ⟨List.getElem?_eq_none (by omega), List.getElem?_eq_none (by omega)⟩
    have hput : (S.put k v h).order = S.below k ++ (S.nodes.length + 1) :: S.rest k := rfl
    rw [hput]
    have hnew : S.nodes.length + 1 = ns.length := hl.symm
    have hover0 : nxtOf ns 0 (t 0) = X.getD 0 0 := hb.symm
    have hht : ∀ z ∈ S.below k ++ S.rest k, (S.put k v h).ht z = S.ht z := fun z hz => S.ht_put k v h (hmem z hz).1 (hmem z hz).2
    have key : Links (fun z => if z = ns.length then h else S.ht z) (nxtOf R) (prvOf R) (S.below k ++ (S.nodes.length + 1) :: S.rest k) := by
      rw [hnew]
      refine hLk.insert (fun z hz => ?_) (fun e => by have := (hmem 0 e).1; omega) (fun e => by have := (hmem _ e).2; omega) (by omega) (by rw [← hp]; exact hS.nodup) (fun z hz => by rw [if_neg hz]) (by simp only [if_true]; omega) ?_ ?_ ?_ ?_ ?_ ?_
      · have := S.ht_pos hS (show z ∈ S.order by rw [hp]; exact hz); omega
      · intro j hj hj12
        rw [if_pos rfl] at hj
        rw [hRm, hx1, if_pos hj, htj]
      · intro j hj12 hj
        rw [if_pos rfl] at hj
        rw [htj, hRn _ _ (htl' j), hn1, if_pos ⟨hj, rfl⟩]
      · intro j z hj hz hn
        rw [if_pos rfl] at hn
        rcases hnz z hz with h3 | h3
        · rw [hRn _ _ h3, hn1, if_neg (fun e => hn ⟨e.1, by rw [htj]; exact e.2⟩)]
        · unfold nxtOf
          rw [(hout z h3).1, (hout z h3).2]
      · rw [hRpm, htj]
      · intro z hz hz0
        rw [htj, hover0] at hz
        rw [hRp z (by omega), if_pos ⟨by omega, hz⟩]
      · intro z hz hz2
        rw [htj, hover0] at hz2
        rcases hnz z hz with h3 | h3
        · rw [hRp z h3, if_neg (fun e => hz2 e.2)]
        · unfold prvOf
          rw [(hout z h3).1, (hout z h3).2]
    -- the heights agree on all that stand in the order
    have hag : ∀ z ∈ S.below k ++ (S.nodes.length + 1) :: S.rest k, (S.put k v h).ht z = (fun z => if z = ns.length then h else S.ht z) z := by
      intro z hz
      simp only []
      by_cases e : z = ns.length
      · rw [if_pos e, e, ← hnew, SL.ht_new]
      · rw [if_neg e]
        refine hht z ?_
        rcases List.mem_append.1 hz with h | h
        · exact List.mem_append_left _ h
        · rcases List.mem_cons.1 h with h | h
          · omega
          · exact List.mem_append_right _ h
    refine ⟨fun j a b hj e hlst => ?_, key.prev⟩
    have hsub : ∀ z ∈ b, z ∈ S.below k ++ (S.nodes.length + 1) :: S.rest k := fun z hz => by rw [e]; exact List.mem_append_right _ hz
    rw [nx_congr fun z hz => hag z (hsub z hz)]
    refine key.next j a b hj e ?_
    by_cases ha : a = []
    · exact Or.inl ha
    · have h5 := hlst.resolve_left ha
      rw [hag _ (by rw [e]; exact List.mem_append_left _ (lastOf_mem ha))] at h5
      exact Or.inr h5
end

end Go.Proofs.Ytehfcafmdnfamaa.G

/- Contracts typed by hand: arrays of 12 numbers as blocks of cells -/
namespace Go.Proofs.Ytehfcafmdnfamaa.G
open Go.RowKit Go.Proofs.YtehfcafmdnfamaaW.PrintWords Go.Proofs.YtehfcafmdnfamaaW.PrintLast Go.Proofs.YtehfcafmdnfamaaW.PrintMore
attribute [local go_sem] max2_int min2_int max_two min_two max_three min_three max_four min_four
set_option linter.unusedVariables false
set_option linter.unusedSimpArgs false

/-! arrays of 12 numbers as blocks of cells -/
def ei (x : Nat) : Value := .int .i64 (x : Int)
def ac12 (t : List Nat) : Array Value := (t.map ei).toArray
theorem ac12_size (t : List Nat) : (ac12 t).size = t.length := by simp [ac12]
theorem ac12_get (t : List Nat) (i : Nat) (h : i < t.length) : (ac12 t)[i]? = some (ei (t.getD i 0)) := by
  unfold ac12
  rw [List.getElem?_toArray, List.getElem?_map, List.getElem?_eq_getElem h, List.getD_eq_getElem?_getD, List.getElem?_eq_getElem h]
  rfl
theorem ac12_one (t : List Nat) : ∀ v ∈ t.map ei, v.oneCell' = true := by
  intro v hv
  obtain ⟨x, _, rfl⟩ := List.mem_map.1 hv
  rfl
theorem ac12_set (t : List Nat) (i x : Nat) : (ac12 t).setIfInBounds i (ei x) = ac12 (t.set i x) := by
  unfold ac12
  rw [List.setIfInBounds_toArray, List.map_set]
/-- block b holds the list as an array's cells -/
structure ArrAt (w : World) (b : Nat) (T : TypeId) (t : List Nat) : Prop where
  heap : w.heap[b]? = some (.cells (ac12 t) T (0, 0))
theorem ArrAt.lt {w : World} {b : Nat} {T : TypeId} {t : List Nat} (h : ArrAt w b T t) : b < w.heap.size := (Array.getElem?_eq_some_iff.1 h.heap).1
theorem ArrAt.cell {w : World} {b : Nat} {T : TypeId} {t : List Nat} (h : ArrAt w b T t) (i : Nat) (hi : i < t.length) : w.cell? ⟨b, i, none⟩ = some (.int .i64 ((t.getD i 0 : Nat) : Int)) := by
  rw [cell_of_row w b i _ T _ h.heap]
  exact ac12_get t i hi
theorem ArrAt.range {w : World} {b : Nat} {T : TypeId} {t : List Nat} (h : ArrAt w b T t) : w.rangeAt b 0 (t.map ei) := fun j v hv => by
  have hl : j < t.length := by
    have := (List.getElem?_eq_some_iff.1 hv).1
    rwa [List.length_map] at this
  rw [Nat.zero_add, h.cell j hl]
  have := ac12_get t j hl
  unfold ac12 at this
  rw [List.getElem?_toArray] at this
  exact this.symm.trans hv
theorem ArrAt.frozen {w : World} {b : Nat} {T : TypeId} {t : List Nat} (h : ArrAt w b T t) (i : Nat) : w.frozen? ⟨b, i, none⟩ = false := blk_frozen h.heap _
theorem ArrAt.there {w : World} {b : Nat} {T : TypeId} {t : List Nat} (h : ArrAt w b T t) {n : Nat} (hn : t.length = n) : w.there b 0 n := fun j hj => by
  rw [Nat.zero_add]
  exact ⟨by rw [h.cell j (by omega)]; rfl, h.frozen j⟩
theorem ArrAt.below {w w1 : World} {b : Nat} {T : TypeId} {t : List Nat} (h : ArrAt w b T t) (hb : Below w.heap.size w w1) : ArrAt w1 b T t := ⟨(hb.block b h.lt).trans h.heap⟩
theorem ArrAt.set {w : World} {b : Nat} {T : TypeId} {t : List Nat} (h : ArrAt w b T t) (i x : Nat) : ArrAt (w.setCell ⟨b, i, none⟩ (.int .i64 (x : Int))) b T (t.set i x) := ⟨by
  rw [Lib.heap_setCell_same h.heap]
  show some (Obj.cells ((ac12 t).setIfInBounds i (ei x)) T (0, 0)) = _
  rw [ac12_set]⟩
theorem ArrAt.setc {w : World} {b : Nat} {T : TypeId} {t : List Nat} (h : ArrAt w b T t) (s : List Nat) (hs : s.length = t.length) : ArrAt (w.setCells b 0 (s.map ei)) b T s := ⟨by
  obtain ⟨cur', h1, h2, h3⟩ := setCells_row (s.map ei) 0 w _ h.heap (by rw [List.length_map, ac12_size]; omega)
  rw [h1]
  have : cur' = ac12 s := by
    apply Array.toList_inj.1
    rw [h3, List.take_zero, List.nil_append, List.drop_eq_nil_of_le (by rw [Array.length_toList, ac12_size, List.length_map]; omega), List.append_nil]
    rfl
  rw [this]⟩
theorem ArrAt.other {w : World} {b b' : Nat} {T : TypeId} {t : List Nat} (h : ArrAt w b T t) (hne : b ≠ b') (i : Nat) (v : Value) : ArrAt (w.setCell ⟨b', i, none⟩ v) b T t := ⟨(Below.heap_setCell _ _ _ _ hne).trans h.heap⟩
theorem ArrAt.fresh (w : World) (T : TypeId) (t : List Nat) : ArrAt (w.alloc (.cells (ac12 t) T)) w.heap.size T t := ⟨by show (w.heap.push _)[w.heap.size]? = _; simp⟩
theorem ArrAt.alloc {w : World} {b : Nat} {T : TypeId} {t : List Nat} (h : ArrAt w b T t) (o : Obj) : ArrAt (w.alloc o) b T t := ⟨(Below.heap_alloc w o b h.lt).trans h.heap⟩
theorem ArrAt.drew {w : World} {b : Nat} {T : TypeId} {t : List Nat} (h : ArrAt w b T t) : ArrAt w.drew b T t := ⟨h.heap⟩
theorem ArrAt.drewN {w : World} {b : Nat} {T : TypeId} {t : List Nat} (h : ArrAt w b T t) (n : Nat) : ArrAt (w.drewN n) b T t := ⟨h.heap⟩
theorem belowSetCells {B : Nat} {a : World} (b : Nat) (hb : B ≤ b) : ∀ (vs : List Value) (o : Nat) (w : World), Below B a w → Below B a (w.setCells b o vs)
  | [], _, _, h => h
  | v :: r, o, w, h => by
    rw [World.setCells]
    exact belowSetCells b hb r (o + 1) _ (h.setCell hb v)
theorem wpList_load_arr {P : Program} {ops : Array Oper} {rest : List Oper} {op : Oper} {a : Act} {w : World} {Q : Exit → Act → World → Prop} (hgd : op.guard = none) (ty : TypeId) (x : Operand) (ho : op.op = .load ty x)
    (b : Nat) (hx : a.eval x = .pointer (some ⟨b, 0, none⟩)) {T : TypeId} {t : List Nat} (h : ArrAt w b T t) {n : Nat} {e : TypeId} (hu : P.underlying ty = some (.array n e)) (hi : (P.info? ty).map (·.size) = some 12) (hl : t.length = 12)
    (hh : wpList P ops Q rest (a.put op.dst (.agg (ac12 t))) w) : wpList P ops Q (op :: rest) a w :=
  wpList_load_mid hgd ty x ho b 0 hx (t.map ei) _ h.range hu rfl (by rw [List.length_map, hl]; exact hi) hh
theorem wpList_store_arr {P : Program} {ops : Array Oper} {rest : List Oper} {op : Oper} {a : Act} {w : World} {Q : Exit → Act → World → Prop} (hgd : op.guard = none) (hN : op.dst = none) (ty : TypeId) (x y : Operand) (ho : op.op = .store ty x y)
    (b : Nat) (hx : a.eval x = .pointer (some ⟨b, 0, none⟩)) {T : TypeId} {t : List Nat} (h : ArrAt w b T t) (s : List Nat) (hy : a.eval y = .agg (ac12 s)) (hi : (P.info? ty).map (·.size) = some 12) (hl : t.length = 12) (hs : s.length = 12)
    (hh : wpList P ops Q rest a (w.setCells b 0 (s.map ei))) : wpList P ops Q (op :: rest) a w :=
  wpList_store_mid hgd ty x y ho b 0 (ac12 s) hx hy (h.there (by rw [ac12_size, hs, hl])) (by rw [ac12_size, hs]; exact hi) (all_oneCell_toArray (ac12_one s)) (by rw [hN]; exact hh)
theorem ret_arr {P : Program} {fn : Func} {R : Ending → World → Prop} {a : Act} {w : World} {i : Nat} {ty : TypeId} {b : Nat} {T : TypeId} {t : List Nat} {n : Nat} {e : TypeId} (hres : fn.results = #[ResultVar.cell i ty]) (htmp : a.tmps.getD i undef = .pointer (some ⟨b, 0, none⟩))
    (h : ArrAt w b T t) (hu : P.underlying ty = some (.array n e)) (hi : (P.info? ty).map (·.size) = some 12) (hl : t.length = 12) (hd : a.defers = []) (hR : R (.returned (.agg (ac12 t))) w) : bodyPost P fn R .ret a w := by
  have hld : (loadVar ty ⟨b, 0, none⟩).run P w = .ok (.agg (ac12 t)) w := run_loadVar_mid w b 0 ty (t.map ei) _ h.range hu rfl (by rw [List.length_map, hl]; exact hi)
  refine bodyPost_ret (v := .agg (ac12 t)) ?_ hd hR
  unfold results
  rw [hres]
  rw [Array.getD_eq_getD_getElem?] at htmp
  simp [htmp, asAddr, hld]
theorem hi12 : (Try.prog.info? 85).map (·.size) = some 12 := by kernel_rfl

end Go.Proofs.Ytehfcafmdnfamaa.G

/- Contracts typed by hand: strings.Compare: the order of two strings, byte by byte -/
namespace Go.Proofs.Ytehfcafmdnfamaa.G
open Go.RowKit Go.Proofs.YtehfcafmdnfamaaW.PrintWords Go.Proofs.YtehfcafmdnfamaaW.PrintLast Go.Proofs.YtehfcafmdnfamaaW.PrintMore
attribute [local go_sem] max2_int min2_int max_two min_two max_three min_three max_four min_four
set_option linter.unusedVariables false
set_option linter.unusedSimpArgs false

/-! strings.Compare: the order of two strings, byte by byte -/
def strings_Compare.f (a0 a1 : ByteArray) : Option Int := some (Lib.compareBytes a0.data.toList a1.data.toList)
theorem bytealg_CompareString.calls (a0 a1 : ByteArray) (w : World) :
    Calls Try.prog 79 #[.string a0, .string a1] w fun e w' => e = .returned (.int .i64 (Lib.compareBytes a0.data.toList a1.data.toList)) ∧ w = w' := by
  go_enter Try.func79, Try.ntmps79
  go_wp2
  rw [run_callFunc_extern Try.func85 (by kernel_rfl) (by kernel_rfl) (by kernel_rfl) (e := Extern.BytealgCompare.compare) (by kernel_rfl), Lib.run_compareString]
  simp only [Result.andThen]
  rw [Oper.upon_value]
  go_wp2
  go_ret
  exact ⟨rfl, rfl⟩
theorem strings_Compare.calls (a0 a1 : ByteArray) (r : Int) (w : World) (h : strings_Compare.f a0 a1 = some r) :
    Calls Try.prog 49 #[.string a0, .string a1] w fun e w' => e = .returned (.int .i64 r) ∧ Drawn0 w w' := by
  obtain rfl := Option.some.inj h
  clear h
  generalize hr : Lib.compareBytes a0.data.toList a1.data.toList = r
  have HR := Aside0.mk hr
  clear hr
  go_enter Try.func49, Try.ntmps49
  go_wp2_with (go_at_call 79; refine (bytealg_CompareString.calls _ _ _).mono ?_; rintro e w' ⟨rfl, rfl⟩; rw [HR.out])
  go_ret
  exact ⟨rfl, Drawn0.refl _⟩

end Go.Proofs.Ytehfcafmdnfamaa.G

/- Printed by the session's program over the kit's print, out of the translation: functions as plain Lean functions, and the proofs that the calls come to them. -/
namespace Go.Proofs.Ytehfcafmdnfamaa.G
open Go.RowKit Go.Proofs.YtehfcafmdnfamaaW.PrintWords Go.Proofs.YtehfcafmdnfamaaW.PrintLast Go.Proofs.YtehfcafmdnfamaaW.PrintMore
attribute [local go_sem] max2_int min2_int max_two min_two max_three min_three max_four min_four   -- for this text's walks alone
set_option linter.unusedVariables false
set_option linter.unusedSimpArgs false



def errW : Option Int → Value
  | none => .nilIface
  | some c => .iface 0 (.int .i64 c)
theorem errW_none : errW none = .nilIface := rfl
theorem errW_some (c : Int) : errW (some c) = .iface 0 (.int .i64 c) := rfl

theorem info3 : (Try.prog.info? 3).map (fun i => (i.zero, i.size, i.bytes)) = some (some (.int .i64 0), 1, 8) := by kernel_rfl
theorem info45 : (Try.prog.info? 45).map (fun i => (i.zero, i.size, i.bytes)) = some (some (.agg #[(.string ⟨#[]⟩), (.int .u64 0), (.int .i64 0), (.string ⟨#[]⟩), (.int .i64 0)]), 5, 56) := by kernel_rfl
-- the values' own types
/-! #### struct type 37 -/
structure S37 where
  f0 : ByteArray
  f1 : Int
  f2 : Int
def z37 : S37 := ⟨(⟨#[]⟩ : ByteArray), (0 : Int), (0 : Int)⟩
def k37 : Kd S37 := Kd.iso (Kd.pair Kd.string (Kd.pair (Kd.int .u64) (Kd.int .i64))) (fun x : S37 => (x.f0, x.f1, x.f2))
theorem k37_open {w : World} {x : S37} {cs : List Value} (h : k37.K w x cs) : cs = [.string x.f0, .int .u64 x.f1, .int .i64 x.f2] := by
  obtain ⟨_, _, rfl, rfl, ⟨_, _, rfl, rfl, rfl⟩⟩ := h
  exact rfl
theorem k37_openM {w : World} {base : Nat} {ok : Nat → Prop} {x : S37} {cs : List Value} (h : k37.M w base ok x cs) : cs = [.string x.f0, .int .u64 x.f1, .int .i64 x.f2] := by
  obtain ⟨_, _, rfl, rfl, ⟨_, _, rfl, rfl, rfl⟩⟩ := h
  exact rfl
theorem k37_mkM (w : World) (base : Nat) (ok : Nat → Prop) (x : S37)  : k37.M w base ok x [.string x.f0, .int .u64 x.f1, .int .i64 x.f2] := ⟨[.string x.f0], [.int .u64 x.f1, .int .i64 x.f2], rfl, rfl, ⟨[.int .u64 x.f1], [.int .i64 x.f2], rfl, rfl, rfl⟩⟩
def rd_T37 (xs : List S37) (i : Int) : S37 := xs.getD i.toNat z37
/-! #### struct type 45 -/
structure S45 where
  f0 : S37
  f1 : ByteArray
  f2 : Int
def z45 : S45 := ⟨z37, (⟨#[]⟩ : ByteArray), (0 : Int)⟩
def k45 : Kd S45 := Kd.iso (Kd.pair k37 (Kd.pair Kd.string (Kd.int .i64))) (fun x : S45 => (x.f0, x.f1, x.f2))
theorem k45_open {w : World} {x : S45} {cs : List Value} (h : k45.K w x cs) : cs = [.string x.f0.f0, .int .u64 x.f0.f1, .int .i64 x.f0.f2, .string x.f1, .int .i64 x.f2] := by
  obtain ⟨_, _, rfl, s0, ⟨_, _, rfl, rfl, rfl⟩⟩ := h
  obtain rfl := k37_open s0
  exact rfl
theorem k45_openM {w : World} {base : Nat} {ok : Nat → Prop} {x : S45} {cs : List Value} (h : k45.M w base ok x cs) : cs = [.string x.f0.f0, .int .u64 x.f0.f1, .int .i64 x.f0.f2, .string x.f1, .int .i64 x.f2] := by
  obtain ⟨_, _, rfl, s0, ⟨_, _, rfl, rfl, rfl⟩⟩ := h
  obtain rfl := k37_openM s0
  exact rfl
theorem k45_mkM (w : World) (base : Nat) (ok : Nat → Prop) (x : S45)  : k45.M w base ok x [.string x.f0.f0, .int .u64 x.f0.f1, .int .i64 x.f0.f2, .string x.f1, .int .i64 x.f2] := ⟨[.string x.f0.f0, .int .u64 x.f0.f1, .int .i64 x.f0.f2], [.string x.f1, .int .i64 x.f2], rfl, (k37_mkM w base ok x.f0 ), ⟨[.string x.f1], [.int .i64 x.f2], rfl, rfl, rfl⟩⟩
def rd_T45 (xs : List S45) (i : Int) : S45 := xs.getD i.toNat z45
theorem at_T45 {w : World} {A : Option Addr} {n : Nat} {xs : List S45} (h : Kd.C k45 w A n xs) (i : Int) (h0 : 0 ≤ i) (h1 : i < n) : ∃ ad , A = some ad ∧ w.cell? (ad.add (i.toNat * 5)) = some (.string (rd_T45 xs i).f0.f0) ∧ w.cell? ⟨(ad.add (i.toNat * 5)).block, (ad.add (i.toNat * 5)).off + 1, none⟩ = some (.int .u64 (rd_T45 xs i).f0.f1) ∧ w.cell? ⟨(ad.add (i.toNat * 5)).block, (ad.add (i.toNat * 5)).off + 2, none⟩ = some (.int .i64 (rd_T45 xs i).f0.f2) ∧ w.cell? ⟨(ad.add (i.toNat * 5)).block, (ad.add (i.toNat * 5)).off + 3, none⟩ = some (.string (rd_T45 xs i).f1) ∧ w.cell? ⟨(ad.add (i.toNat * 5)).block, (ad.add (i.toNat * 5)).off + 4, none⟩ = some (.int .i64 (rd_T45 xs i).f2) := by
  obtain ⟨ad, c, e, _, hK, hc0⟩ := Kd.C_get h z45 i h0 h1
  have hc : ∀ j u, c[j]? = some u → w.cell? (ad.add (i.toNat * 5 + j)) = some u := hc0
  obtain rfl := k45_open hK
  exact ⟨ad, e, hc 0 _ rfl, by rw [← add_field _ _ 1 (by omega)]; exact hc 1 _ rfl, by rw [← add_field _ _ 2 (by omega)]; exact hc 2 _ rfl, by rw [← add_field _ _ 3 (by omega)]; exact hc 3 _ rfl, by rw [← add_field _ _ 4 (by omega)]; exact hc 4 _ rfl⟩

end Go.Proofs.Ytehfcafmdnfamaa.G

/- Printed by the session's program over the kit's print, out of the translation: functions as plain Lean functions, and the proofs that the calls come to them. -/
namespace Go.Proofs.Ytehfcafmdnfamaa.G
open Go.RowKit Go.Proofs.YtehfcafmdnfamaaW.PrintWords Go.Proofs.YtehfcafmdnfamaaW.PrintLast Go.Proofs.YtehfcafmdnfamaaW.PrintMore
attribute [local go_sem] max2_int min2_int max_two min_two max_three min_three max_four min_four   -- for this text's walks alone
set_option linter.unusedVariables false
set_option linter.unusedSimpArgs false

/-! ### cmp_Or_int: function 48 -/
def cmp_Or_int.l0 : Nat → Int → List Int → Int → Int → Option (Int)
  | 0, _, _, _, _ => none
  | k + 1, x3, x6, x7, x8 => if x8 < x7 then (if 0 ≤ x8 then (if x8 < (x6.length : Int) then (if (rd x6 x8) = x3 then (cmp_Or_int.l0 k x3 x6 x7 (wrap64 (x8 + 1))) else (some (rd x6 x8))) else (none)) else (none)) else (some x3)
def cmp_Or_int.f (k : Nat) (l0 : List Int) : Option (Int) := cmp_Or_int.l0 k 0 l0 (l0.length : Int) 0
theorem cmp_Or_int.mono_l : ∀ k, (∀ y0 y1 y2 y3, LeO (cmp_Or_int.l0 k y0 y1 y2 y3) (cmp_Or_int.l0 (k + 1) y0 y1 y2 y3))
  | 0 => fun _ _ _ _ r h => by simp [cmp_Or_int.l0] at h
  | k + 1 => by
    have ih0 := cmp_Or_int.mono_l k
    · intro y0 y1 y2 y3
      unfold cmp_Or_int.l0
      repeat' first
      | (with_reducible exact ih0 _ _ _ _)
      | (with_reducible exact LeO.refl _)
      | (with_reducible exact LeO.none _)
      | (with_reducible refine LeO.ite ?_ ?_)
      | (with_reducible refine LeO.bind ?_ (fun _ => ?_))
      | exact ih0 _ _ _ _
      | exact LeO.none _
      | refine LeO.ite ?_ ?_
      | refine LeO.bind ?_ (fun _ => ?_)
theorem cmp_Or_int.mono : ∀ a0 k, LeO (cmp_Or_int.f k a0) (cmp_Or_int.f (k + 1) a0) := by
  intro a0 k
  have ih0 := cmp_Or_int.mono_l k
  unfold cmp_Or_int.f
  repeat' first
      | (with_reducible exact ih0 _ _ _ _)
      | (with_reducible exact LeO.refl _)
      | (with_reducible exact LeO.none _)
      | (with_reducible refine LeO.ite ?_ ?_)
      | (with_reducible refine LeO.bind ?_ (fun _ => ?_))
      | exact ih0 _ _ _ _
      | exact LeO.none _
      | refine LeO.ite ?_ ?_
      | refine LeO.bind ?_ (fun _ => ?_)
set_option maxHeartbeats 8000000 in
set_option maxRecDepth 100000 in
theorem cmp_Or_int.calls (k : Nat) (A0 : Option Addr) (c0 : Nat) (l0 : List Int) (r : Int) (w : World) (hr0 : Kd.C (Kd.int .i64) w A0 l0.length l0) (hc0 : l0.length ≤ c0) (h : cmp_Or_int.f k l0 = some r) :
    Calls Try.prog 48 #[.slice A0 l0.length c0] w fun e w' => e = .returned (.int .i64 r) ∧ Drawn0 w w' := by
  have HR0 := Aside0.mk hr0
  have HC0 := Aside0.mk hc0
  clear hr0 hc0
  have H : (cmp_Or_int.l0 k 0 l0 (l0.length : Int) 0) = some r := h
  clear h
  have H' := Aside0.mk H
  clear H
  go_enter Try.func48, Try.ntmps48
  go_wp2
  go_loopg [8] k (fun kq v8 w' => ∃ (x8_1 : Int), v8 = .int .i64 x8_1 ∧ Aside0 (cmp_Or_int.l0 kq 0 l0 (l0.length : Int) x8_1 = some r) ∧ Aside0 (kq ≤ k) ∧ Drawn0 w w')
  case atStart => exact ⟨(0), (by first | rfl | (simp; done) | (simp [*]; done)), H', ⟨Nat.le_refl _⟩, by repeat (first | exact Drawn0.refl _ | apply Drawn0.step)⟩
  case round =>
    clear H'
    obtain ⟨x8_1, rfl, HA, HK1, ⟨m1, rfl⟩⟩ := hrel
    cases gk with
    | zero => exact absurd HA.out (by simp [cmp_Or_int.l0])
    | succ k1 =>
      have H := HA.out
      clear HA
      simp only [cmp_Or_int.l0] at H
      by_cases c2 : x8_1 < (l0.length : Int)
      · rw [if_pos c2] at H
        have c2b0 : decide (x8_1 < (l0.length : Int)) = true := decide_eq_true c2
        clear c2
        by_cases c3 : 0 ≤ x8_1
        · rw [if_pos c3] at H
          have c3b0 : decide (0 ≤ x8_1) = true := decide_eq_true c3
          clear c3
          by_cases c4 : x8_1 < (l0.length : Int)
          · rw [if_pos c4] at H
            have c4b0 : decide (x8_1 < (l0.length : Int)) = true := decide_eq_true c4
            clear c4
            by_cases c5 : (rd l0 x8_1) = 0
            · rw [if_pos c5] at H
              have c5b0 : ((rd l0 x8_1) == 0) = true := beq_iff_eq.mpr c5
              have c5b1 : ((rd l0 x8_1) != 0) = false := bne_eq_false_iff_eq.mpr c5
              clear c5
              have H' := Aside0.mk H
              clear H
              have p101 : 0 ≤ (x8_1 : Int) := of_decide_eq_true (by first | (with_reducible assumption) | assumption)
              have q101 : x8_1 < (l0.length : Int) := of_decide_eq_true (by first | (with_reducible assumption) | assumption)
              obtain ⟨ad101, e101, hx101_0⟩ := Kd.at_int HR0.out x8_1 p101 q101
              cases e101
              replace p101 := eq_true p101
              replace q101 := eq_true q101
              go_wp2
              go_roundg k1
              case measure => have := HK1.out; omega
              case rel => exact ⟨(wrap64 (x8_1 + 1)), (by first | rfl | (simp; done) | (simp [*]; done)), H', ⟨by have := HK1.out; omega⟩, by repeat (first | exact Drawn0.refl _ | apply Drawn0.step)⟩
            · rw [if_neg c5] at H
              have c5b0 : ((rd l0 x8_1) == 0) = false := beq_eq_false_iff_ne.mpr c5
              have c5b1 : ((rd l0 x8_1) != 0) = true := bne_iff_ne.mpr c5
              obtain rfl := Option.some.inj H
              have p101 : 0 ≤ (x8_1 : Int) := of_decide_eq_true (by first | (with_reducible assumption) | assumption)
              have q101 : x8_1 < (l0.length : Int) := of_decide_eq_true (by first | (with_reducible assumption) | assumption)
              obtain ⟨ad101, e101, hx101_0⟩ := Kd.at_int HR0.out x8_1 p101 q101
              cases e101
              replace p101 := eq_true p101
              replace q101 := eq_true q101
              go_wp2
              go_ret
              exact ⟨by first | rfl | (simp; done) | (simp [*]; done), by repeat (first | exact Drawn0.refl _ | apply Drawn0.step)⟩
          · rw [if_neg c4] at H
            exact absurd H (by simp)
        · rw [if_neg c3] at H
          exact absurd H (by simp)
      · rw [if_neg c2] at H
        have c2b0 : decide (x8_1 < (l0.length : Int)) = false := decide_eq_false c2
        clear c2
        obtain rfl := Option.some.inj H
        go_wp2
        go_ret
        exact ⟨by first | rfl | (simp; done) | (simp [*]; done), by repeat (first | exact Drawn0.refl _ | apply Drawn0.step)⟩

end Go.Proofs.Ytehfcafmdnfamaa.G

/- Printed by the session's program over the kit's print, out of the translation: functions as plain Lean functions, and the proofs that the calls come to them. -/
namespace Go.Proofs.Ytehfcafmdnfamaa.G
open Go.RowKit Go.Proofs.YtehfcafmdnfamaaW.PrintWords Go.Proofs.YtehfcafmdnfamaaW.PrintLast Go.Proofs.YtehfcafmdnfamaaW.PrintMore
attribute [local go_sem] max2_int min2_int max_two min_two max_three min_three max_four min_four   -- for this text's walks alone
set_option linter.unusedVariables false
set_option linter.unusedSimpArgs false

/-! ### cmp_isNaN_uint64: function 80 -/
def cmp_isNaN_uint64.f (a0 : Int) : Option (Bool) := some (a0 != a0)
set_option maxHeartbeats 8000000 in
set_option maxRecDepth 100000 in
theorem cmp_isNaN_uint64.calls (a0 : Int) (r : Bool) (w : World) (h : cmp_isNaN_uint64.f a0 = some r) :
    Calls Try.prog 80 #[.int .u64 a0] w fun e w' => e = .returned (.bool r) ∧ Drawn0 w w' := by
  have H : (some (a0 != a0)) = some r := h
  clear h
  obtain rfl := Option.some.inj H
  go_enter Try.func80, Try.ntmps80
  go_wp2
  go_ret
  exact ⟨by first | rfl | (simp; done) | (simp [*]; done), by repeat (first | exact Drawn0.refl _ | apply Drawn0.step)⟩

end Go.Proofs.Ytehfcafmdnfamaa.G

/- Printed by the session's program over the kit's print, out of the translation: functions as plain Lean functions, and the proofs that the calls come to them. -/
namespace Go.Proofs.Ytehfcafmdnfamaa.G
open Go.RowKit Go.Proofs.YtehfcafmdnfamaaW.PrintWords Go.Proofs.YtehfcafmdnfamaaW.PrintLast Go.Proofs.YtehfcafmdnfamaaW.PrintMore
attribute [local go_sem] max2_int min2_int max_two min_two max_three min_three max_four min_four   -- for this text's walks alone
set_option linter.unusedVariables false
set_option linter.unusedSimpArgs false

/-! ### cmp_Compare_uint64: function 50 -/
def cmp_Compare_uint64.f (a0 : Int) (a1 : Int) : Option (Int) := (cmp_isNaN_uint64.f a0).bind fun t102 => ((cmp_isNaN_uint64.f a1).bind fun t103 => (if t102 = true then (if t103 = true then (some 0) else (some (-1))) else (if t103 = true then (some 1) else (if a0 < a1 then (some (-1)) else (if a0 > a1 then (some 1) else (some 0))))))
set_option maxHeartbeats 8000000 in
set_option maxRecDepth 100000 in
theorem cmp_Compare_uint64.calls (a0 : Int) (a1 : Int) (r : Int) (w : World) (h : cmp_Compare_uint64.f a0 a1 = some r) :
    Calls Try.prog 50 #[.int .u64 a0, .int .u64 a1] w fun e w' => e = .returned (.int .i64 r) ∧ Drawn0 w w' := by
  have H : ((cmp_isNaN_uint64.f a0).bind fun t102 => ((cmp_isNaN_uint64.f a1).bind fun t103 => (if t102 = true then (if t103 = true then (some 0) else (some (-1))) else (if t103 = true then (some 1) else (if a0 < a1 then (some (-1)) else (if a0 > a1 then (some 1) else (some 0))))))) = some r := h
  clear h
  replace H := Option.bind_eq_some_iff.mp H
  obtain ⟨t102, A30, H⟩ := H
  replace H : ((cmp_isNaN_uint64.f a1).bind fun t103 => (if t102 = true then (if t103 = true then (some 0) else (some (-1))) else (if t103 = true then (some 1) else (if a0 < a1 then (some (-1)) else (if a0 > a1 then (some 1) else (some 0)))))) = some r := H
  have A3 := Aside0.mk A30
  clear A30
  replace H := Option.bind_eq_some_iff.mp H
  obtain ⟨t103, A40, H⟩ := H
  replace H : (if t102 = true then (if t103 = true then (some 0) else (some (-1))) else (if t103 = true then (some 1) else (if a0 < a1 then (some (-1)) else (if a0 > a1 then (some 1) else (some 0))))) = some r := H
  have A4 := Aside0.mk A40
  clear A40
  by_cases c5 : t102 = true
  · subst c5
    have H1 : (if t103 = true then (some 0) else (some (-1))) = some r := by rw [if_pos rfl] at H; exact H
    clear H
    have H := H1
    clear H1
    by_cases c6 : t103 = true
    · subst c6
      have H1 : (some 0) = some r := by rw [if_pos rfl] at H; exact H
      clear H
      have H := H1
      clear H1
      obtain rfl := Option.some.inj H
      go_enter Try.func50, Try.ntmps50
      go_wp2_with (first | ((with_reducible refine gate_callee (f := 80) rfl ?_); refine goesL_ (some 8) rfl rfl Try.func80 (by kernel_rfl) rfl #[.int .u64 a0] rfl (by (try simp only [List.map_toArray, List.map_cons, List.map_nil]); first | done | rfl | (simp only [List.length_drop, List.length_take]; rfl)) ?_; (with_reducible refine (cmp_isNaN_uint64.calls a0 true _ A3.out).mono ?_); rintro e w' ⟨rfl, ⟨nd, rfl⟩⟩; refine ⟨_, rfl, ?_⟩) | ((with_reducible refine gate_callee (f := 80) rfl ?_); refine goesL_ (some 10) rfl rfl Try.func80 (by kernel_rfl) rfl #[.int .u64 a1] rfl (by (try simp only [List.map_toArray, List.map_cons, List.map_nil]); first | done | rfl | (simp only [List.length_drop, List.length_take]; rfl)) ?_; (with_reducible refine (cmp_isNaN_uint64.calls a1 true _ A4.out).mono ?_); rintro e w' ⟨rfl, ⟨nd, rfl⟩⟩; refine ⟨_, rfl, ?_⟩))
      go_ret
      exact ⟨by first | rfl | (simp; done) | (simp [*]; done), by repeat (first | exact Drawn0.refl _ | apply Drawn0.step)⟩
    · replace c6 := Bool.eq_false_iff.mpr c6
      subst c6
      have H1 : (some (-1)) = some r := by rw [if_neg (show ¬ (false = true) by decide)] at H; exact H
      clear H
      have H := H1
      clear H1
      obtain rfl := Option.some.inj H
      go_enter Try.func50, Try.ntmps50
      go_wp2_with (first | ((with_reducible refine gate_callee (f := 80) rfl ?_); refine goesL_ (some 8) rfl rfl Try.func80 (by kernel_rfl) rfl #[.int .u64 a0] rfl (by (try simp only [List.map_toArray, List.map_cons, List.map_nil]); first | done | rfl | (simp only [List.length_drop, List.length_take]; rfl)) ?_; (with_reducible refine (cmp_isNaN_uint64.calls a0 true _ A3.out).mono ?_); rintro e w' ⟨rfl, ⟨nd, rfl⟩⟩; refine ⟨_, rfl, ?_⟩) | ((with_reducible refine gate_callee (f := 80) rfl ?_); refine goesL_ (some 10) rfl rfl Try.func80 (by kernel_rfl) rfl #[.int .u64 a1] rfl (by (try simp only [List.map_toArray, List.map_cons, List.map_nil]); first | done | rfl | (simp only [List.length_drop, List.length_take]; rfl)) ?_; (with_reducible refine (cmp_isNaN_uint64.calls a1 false _ A4.out).mono ?_); rintro e w' ⟨rfl, ⟨nd, rfl⟩⟩; refine ⟨_, rfl, ?_⟩))
      go_ret
      exact ⟨by first | rfl | (simp; done) | (simp [*]; done), by repeat (first | exact Drawn0.refl _ | apply Drawn0.step)⟩
  · replace c5 := Bool.eq_false_iff.mpr c5
    subst c5
    have H1 : (if t103 = true then (some 1) else (if a0 < a1 then (some (-1)) else (if a0 > a1 then (some 1) else (some 0)))) = some r := by rw [if_neg (show ¬ (false = true) by decide)] at H; exact H
    clear H
    have H := H1
    clear H1
    by_cases c7 : t103 = true
    · subst c7
      have H1 : (some 1) = some r := by rw [if_pos rfl] at H; exact H
      clear H
      have H := H1
      clear H1
      obtain rfl := Option.some.inj H
      go_enter Try.func50, Try.ntmps50
      go_wp2_with (first | ((with_reducible refine gate_callee (f := 80) rfl ?_); refine goesL_ (some 8) rfl rfl Try.func80 (by kernel_rfl) rfl #[.int .u64 a0] rfl (by (try simp only [List.map_toArray, List.map_cons, List.map_nil]); first | done | rfl | (simp only [List.length_drop, List.length_take]; rfl)) ?_; (with_reducible refine (cmp_isNaN_uint64.calls a0 false _ A3.out).mono ?_); rintro e w' ⟨rfl, ⟨nd, rfl⟩⟩; refine ⟨_, rfl, ?_⟩) | ((with_reducible refine gate_callee (f := 80) rfl ?_); refine goesL_ (some 10) rfl rfl Try.func80 (by kernel_rfl) rfl #[.int .u64 a1] rfl (by (try simp only [List.map_toArray, List.map_cons, List.map_nil]); first | done | rfl | (simp only [List.length_drop, List.length_take]; rfl)) ?_; (with_reducible refine (cmp_isNaN_uint64.calls a1 true _ A4.out).mono ?_); rintro e w' ⟨rfl, ⟨nd, rfl⟩⟩; refine ⟨_, rfl, ?_⟩))
      go_ret
      exact ⟨by first | rfl | (simp; done) | (simp [*]; done), by repeat (first | exact Drawn0.refl _ | apply Drawn0.step)⟩
    · replace c7 := Bool.eq_false_iff.mpr c7
      subst c7
      have H1 : (if a0 < a1 then (some (-1)) else (if a0 > a1 then (some 1) else (some 0))) = some r := by rw [if_neg (show ¬ (false = true) by decide)] at H; exact H
      clear H
      have H := H1
      clear H1
      by_cases c8 : a0 < a1
      · rw [if_pos c8] at H
        have c8b0 : decide (a0 < a1) = true := decide_eq_true c8
        clear c8
        obtain rfl := Option.some.inj H
        go_enter Try.func50, Try.ntmps50
        go_wp2_with (first | ((with_reducible refine gate_callee (f := 80) rfl ?_); refine goesL_ (some 8) rfl rfl Try.func80 (by kernel_rfl) rfl #[.int .u64 a0] rfl (by (try simp only [List.map_toArray, List.map_cons, List.map_nil]); first | done | rfl | (simp only [List.length_drop, List.length_take]; rfl)) ?_; (with_reducible refine (cmp_isNaN_uint64.calls a0 false _ A3.out).mono ?_); rintro e w' ⟨rfl, ⟨nd, rfl⟩⟩; refine ⟨_, rfl, ?_⟩) | ((with_reducible refine gate_callee (f := 80) rfl ?_); refine goesL_ (some 10) rfl rfl Try.func80 (by kernel_rfl) rfl #[.int .u64 a1] rfl (by (try simp only [List.map_toArray, List.map_cons, List.map_nil]); first | done | rfl | (simp only [List.length_drop, List.length_take]; rfl)) ?_; (with_reducible refine (cmp_isNaN_uint64.calls a1 false _ A4.out).mono ?_); rintro e w' ⟨rfl, ⟨nd, rfl⟩⟩; refine ⟨_, rfl, ?_⟩))
        go_ret
        exact ⟨by first | rfl | (simp; done) | (simp [*]; done), by repeat (first | exact Drawn0.refl _ | apply Drawn0.step)⟩
      · rw [if_neg c8] at H
        have c8b0 : decide (a0 < a1) = false := decide_eq_false c8
        clear c8
        by_cases c9 : a0 > a1
        · rw [if_pos c9] at H
          have c9b0 : decide (a1 < a0) = true := decide_eq_true c9
          clear c9
          obtain rfl := Option.some.inj H
          go_enter Try.func50, Try.ntmps50
          go_wp2_with (first | ((with_reducible refine gate_callee (f := 80) rfl ?_); refine goesL_ (some 8) rfl rfl Try.func80 (by kernel_rfl) rfl #[.int .u64 a0] rfl (by (try simp only [List.map_toArray, List.map_cons, List.map_nil]); first | done | rfl | (simp only [List.length_drop, List.length_take]; rfl)) ?_; (with_reducible refine (cmp_isNaN_uint64.calls a0 false _ A3.out).mono ?_); rintro e w' ⟨rfl, ⟨nd, rfl⟩⟩; refine ⟨_, rfl, ?_⟩) | ((with_reducible refine gate_callee (f := 80) rfl ?_); refine goesL_ (some 10) rfl rfl Try.func80 (by kernel_rfl) rfl #[.int .u64 a1] rfl (by (try simp only [List.map_toArray, List.map_cons, List.map_nil]); first | done | rfl | (simp only [List.length_drop, List.length_take]; rfl)) ?_; (with_reducible refine (cmp_isNaN_uint64.calls a1 false _ A4.out).mono ?_); rintro e w' ⟨rfl, ⟨nd, rfl⟩⟩; refine ⟨_, rfl, ?_⟩))
          go_ret
          exact ⟨by first | rfl | (simp; done) | (simp [*]; done), by repeat (first | exact Drawn0.refl _ | apply Drawn0.step)⟩
        · rw [if_neg c9] at H
          have c9b0 : decide (a1 < a0) = false := decide_eq_false c9
          clear c9
          obtain rfl := Option.some.inj H
          go_enter Try.func50, Try.ntmps50
          go_wp2_with (first | ((with_reducible refine gate_callee (f := 80) rfl ?_); refine goesL_ (some 8) rfl rfl Try.func80 (by kernel_rfl) rfl #[.int .u64 a0] rfl (by (try simp only [List.map_toArray, List.map_cons, List.map_nil]); first | done | rfl | (simp only [List.length_drop, List.length_take]; rfl)) ?_; (with_reducible refine (cmp_isNaN_uint64.calls a0 false _ A3.out).mono ?_); rintro e w' ⟨rfl, ⟨nd, rfl⟩⟩; refine ⟨_, rfl, ?_⟩) | ((with_reducible refine gate_callee (f := 80) rfl ?_); refine goesL_ (some 10) rfl rfl Try.func80 (by kernel_rfl) rfl #[.int .u64 a1] rfl (by (try simp only [List.map_toArray, List.map_cons, List.map_nil]); first | done | rfl | (simp only [List.length_drop, List.length_take]; rfl)) ?_; (with_reducible refine (cmp_isNaN_uint64.calls a1 false _ A4.out).mono ?_); rintro e w' ⟨rfl, ⟨nd, rfl⟩⟩; refine ⟨_, rfl, ?_⟩))
          go_ret
          exact ⟨by first | rfl | (simp; done) | (simp [*]; done), by repeat (first | exact Drawn0.refl _ | apply Drawn0.step)⟩

end Go.Proofs.Ytehfcafmdnfamaa.G

/- Printed by the session's program over the kit's print, out of the translation: functions as plain Lean functions, and the proofs that the calls come to them. -/
namespace Go.Proofs.Ytehfcafmdnfamaa.G
open Go.RowKit Go.Proofs.YtehfcafmdnfamaaW.PrintWords Go.Proofs.YtehfcafmdnfamaaW.PrintLast Go.Proofs.YtehfcafmdnfamaaW.PrintMore
attribute [local go_sem] max2_int min2_int max_two min_two max_three min_three max_four min_four   -- for this text's walks alone
set_option linter.unusedVariables false
set_option linter.unusedSimpArgs false

/-! ### cmp_isNaN_int: function 81 -/
def cmp_isNaN_int.f (a0 : Int) : Option (Bool) := some (a0 != a0)
set_option maxHeartbeats 8000000 in
set_option maxRecDepth 100000 in
theorem cmp_isNaN_int.calls (a0 : Int) (r : Bool) (w : World) (h : cmp_isNaN_int.f a0 = some r) :
    Calls Try.prog 81 #[.int .i64 a0] w fun e w' => e = .returned (.bool r) ∧ Drawn0 w w' := by
  have H : (some (a0 != a0)) = some r := h
  clear h
  obtain rfl := Option.some.inj H
  go_enter Try.func81, Try.ntmps81
  go_wp2
  go_ret
  exact ⟨by first | rfl | (simp; done) | (simp [*]; done), by repeat (first | exact Drawn0.refl _ | apply Drawn0.step)⟩

end Go.Proofs.Ytehfcafmdnfamaa.G

/- Printed by the session's program over the kit's print, out of the translation: functions as plain Lean functions, and the proofs that the calls come to them. -/
namespace Go.Proofs.Ytehfcafmdnfamaa.G
open Go.RowKit Go.Proofs.YtehfcafmdnfamaaW.PrintWords Go.Proofs.YtehfcafmdnfamaaW.PrintLast Go.Proofs.YtehfcafmdnfamaaW.PrintMore
attribute [local go_sem] max2_int min2_int max_two min_two max_three min_three max_four min_four   -- for this text's walks alone
set_option linter.unusedVariables false
set_option linter.unusedSimpArgs false

/-! ### cmp_Compare_int: function 51 -/
def cmp_Compare_int.f (a0 : Int) (a1 : Int) : Option (Int) := (cmp_isNaN_int.f a0).bind fun t104 => ((cmp_isNaN_int.f a1).bind fun t105 => (if t104 = true then (if t105 = true then (some 0) else (some (-1))) else (if t105 = true then (some 1) else (if a0 < a1 then (some (-1)) else (if a0 > a1 then (some 1) else (some 0))))))
set_option maxHeartbeats 8000000 in
set_option maxRecDepth 100000 in
theorem cmp_Compare_int.calls (a0 : Int) (a1 : Int) (r : Int) (w : World) (h : cmp_Compare_int.f a0 a1 = some r) :
    Calls Try.prog 51 #[.int .i64 a0, .int .i64 a1] w fun e w' => e = .returned (.int .i64 r) ∧ Drawn0 w w' := by
  have H : ((cmp_isNaN_int.f a0).bind fun t104 => ((cmp_isNaN_int.f a1).bind fun t105 => (if t104 = true then (if t105 = true then (some 0) else (some (-1))) else (if t105 = true then (some 1) else (if a0 < a1 then (some (-1)) else (if a0 > a1 then (some 1) else (some 0))))))) = some r := h
  clear h
  replace H := Option.bind_eq_some_iff.mp H
  obtain ⟨t104, A30, H⟩ := H
  replace H : ((cmp_isNaN_int.f a1).bind fun t105 => (if t104 = true then (if t105 = true then (some 0) else (some (-1))) else (if t105 = true then (some 1) else (if a0 < a1 then (some (-1)) else (if a0 > a1 then (some 1) else (some 0)))))) = some r := H
  have A3 := Aside0.mk A30
  clear A30
  replace H := Option.bind_eq_some_iff.mp H
  obtain ⟨t105, A40, H⟩ := H
  replace H : (if t104 = true then (if t105 = true then (some 0) else (some (-1))) else (if t105 = true then (some 1) else (if a0 < a1 then (some (-1)) else (if a0 > a1 then (some 1) else (some 0))))) = some r := H
  have A4 := Aside0.mk A40
  clear A40
  by_cases c5 : t104 = true
  · subst c5
    have H1 : (if t105 = true then (some 0) else (some (-1))) = some r := by rw [if_pos rfl] at H; exact H
    clear H
    have H := H1
    clear H1
    by_cases c6 : t105 = true
    · subst c6
      have H1 : (some 0) = some r := by rw [if_pos rfl] at H; exact H
      clear H
      have H := H1
      clear H1
      obtain rfl := Option.some.inj H
      go_enter Try.func51, Try.ntmps51
      go_wp2_with (first | ((with_reducible refine gate_callee (f := 81) rfl ?_); refine goesL_ (some 8) rfl rfl Try.func81 (by kernel_rfl) rfl #[.int .i64 a0] rfl (by (try simp only [List.map_toArray, List.map_cons, List.map_nil]); first | done | rfl | (simp only [List.length_drop, List.length_take]; rfl)) ?_; (with_reducible refine (cmp_isNaN_int.calls a0 true _ A3.out).mono ?_); rintro e w' ⟨rfl, ⟨nd, rfl⟩⟩; refine ⟨_, rfl, ?_⟩) | ((with_reducible refine gate_callee (f := 81) rfl ?_); refine goesL_ (some 10) rfl rfl Try.func81 (by kernel_rfl) rfl #[.int .i64 a1] rfl (by (try simp only [List.map_toArray, List.map_cons, List.map_nil]); first | done | rfl | (simp only [List.length_drop, List.length_take]; rfl)) ?_; (with_reducible refine (cmp_isNaN_int.calls a1 true _ A4.out).mono ?_); rintro e w' ⟨rfl, ⟨nd, rfl⟩⟩; refine ⟨_, rfl, ?_⟩))
      go_ret
      exact ⟨by first | rfl | (simp; done) | (simp [*]; done), by repeat (first | exact Drawn0.refl _ | apply Drawn0.step)⟩
    · replace c6 := Bool.eq_false_iff.mpr c6
      subst c6
      have H1 : (some (-1)) = some r := by rw [if_neg (show ¬ (false = true) by decide)] at H; exact H
      clear H
      have H := H1
      clear H1
      obtain rfl := Option.some.inj H
      go_enter Try.func51, Try.ntmps51
      go_wp2_with (first | ((with_reducible refine gate_callee (f := 81) rfl ?_); refine goesL_ (some 8) rfl rfl Try.func81 (by kernel_rfl) rfl #[.int .i64 a0] rfl (by (try simp only [List.map_toArray, List.map_cons, List.map_nil]); first | done | rfl | (simp only [List.length_drop, List.length_take]; rfl)) ?_; (with_reducible refine (cmp_isNaN_int.calls a0 true _ A3.out).mono ?_); rintro e w' ⟨rfl, ⟨nd, rfl⟩⟩; refine ⟨_, rfl, ?_⟩) | ((with_reducible refine gate_callee (f := 81) rfl ?_); refine goesL_ (some 10) rfl rfl Try.func81 (by kernel_rfl) rfl #[.int .i64 a1] rfl (by (try simp only [List.map_toArray, List.map_cons, List.map_nil]); first | done | rfl | (simp only [List.length_drop, List.length_take]; rfl)) ?_; (with_reducible refine (cmp_isNaN_int.calls a1 false _ A4.out).mono ?_); rintro e w' ⟨rfl, ⟨nd, rfl⟩⟩; refine ⟨_, rfl, ?_⟩))
      go_ret
      exact ⟨by first | rfl | (simp; done) | (simp [*]; done), by repeat (first | exact Drawn0.refl _ | apply Drawn0.step)⟩
  · replace c5 := Bool.eq_false_iff.mpr c5
    subst c5
    have H1 : (if t105 = true then (some 1) else (if a0 < a1 then (some (-1)) else (if a0 > a1 then (some 1) else (some 0)))) = some r := by rw [if_neg (show ¬ (false = true) by decide)] at H; exact H
    clear H
    have H := H1
    clear H1
    by_cases c7 : t105 = true
    · subst c7
      have H1 : (some 1) = some r := by rw [if_pos rfl] at H; exact H
      clear H
      have H := H1
      clear H1
      obtain rfl := Option.some.inj H
      go_enter Try.func51, Try.ntmps51
      go_wp2_with (first | ((with_reducible refine gate_callee (f := 81) rfl ?_); refine goesL_ (some 8) rfl rfl Try.func81 (by kernel_rfl) rfl #[.int .i64 a0] rfl (by (try simp only [List.map_toArray, List.map_cons, List.map_nil]); first | done | rfl | (simp only [List.length_drop, List.length_take]; rfl)) ?_; (with_reducible refine (cmp_isNaN_int.calls a0 false _ A3.out).mono ?_); rintro e w' ⟨rfl, ⟨nd, rfl⟩⟩; refine ⟨_, rfl, ?_⟩) | ((with_reducible refine gate_callee (f := 81) rfl ?_); refine goesL_ (some 10) rfl rfl Try.func81 (by kernel_rfl) rfl #[.int .i64 a1] rfl (by (try simp only [List.map_toArray, List.map_cons, List.map_nil]); first | done | rfl | (simp only [List.length_drop, List.length_take]; rfl)) ?_; (with_reducible refine (cmp_isNaN_int.calls a1 true _ A4.out).mono ?_); rintro e w' ⟨rfl, ⟨nd, rfl⟩⟩; refine ⟨_, rfl, ?_⟩))
      go_ret
      exact ⟨by first | rfl | (simp; done) | (simp [*]; done), by repeat (first | exact Drawn0.refl _ | apply Drawn0.step)⟩
    · replace c7 := Bool.eq_false_iff.mpr c7
      subst c7
      have H1 : (if a0 < a1 then (some (-1)) else (if a0 > a1 then (some 1) else (some 0))) = some r := by rw [if_neg (show ¬ (false = true) by decide)] at H; exact H
      clear H
      have H := H1
      clear H1
      by_cases c8 : a0 < a1
      · rw [if_pos c8] at H
        have c8b0 : decide (a0 < a1) = true := decide_eq_true c8
        clear c8
        obtain rfl := Option.some.inj H
        go_enter Try.func51, Try.ntmps51
        go_wp2_with (first | ((with_reducible refine gate_callee (f := 81) rfl ?_); refine goesL_ (some 8) rfl rfl Try.func81 (by kernel_rfl) rfl #[.int .i64 a0] rfl (by (try simp only [List.map_toArray, List.map_cons, List.map_nil]); first | done | rfl | (simp only [List.length_drop, List.length_take]; rfl)) ?_; (with_reducible refine (cmp_isNaN_int.calls a0 false _ A3.out).mono ?_); rintro e w' ⟨rfl, ⟨nd, rfl⟩⟩; refine ⟨_, rfl, ?_⟩) | ((with_reducible refine gate_callee (f := 81) rfl ?_); refine goesL_ (some 10) rfl rfl Try.func81 (by kernel_rfl) rfl #[.int .i64 a1] rfl (by (try simp only [List.map_toArray, List.map_cons, List.map_nil]); first | done | rfl | (simp only [List.length_drop, List.length_take]; rfl)) ?_; (with_reducible refine (cmp_isNaN_int.calls a1 false _ A4.out).mono ?_); rintro e w' ⟨rfl, ⟨nd, rfl⟩⟩; refine ⟨_, rfl, ?_⟩))
        go_ret
        exact ⟨by first | rfl | (simp; done) | (simp [*]; done), by repeat (first | exact Drawn0.refl _ | apply Drawn0.step)⟩
      · rw [if_neg c8] at H
        have c8b0 : decide (a0 < a1) = false := decide_eq_false c8
        clear c8
        by_cases c9 : a0 > a1
        · rw [if_pos c9] at H
          have c9b0 : decide (a1 < a0) = true := decide_eq_true c9
          clear c9
          obtain rfl := Option.some.inj H
          go_enter Try.func51, Try.ntmps51
          go_wp2_with (first | ((with_reducible refine gate_callee (f := 81) rfl ?_); refine goesL_ (some 8) rfl rfl Try.func81 (by kernel_rfl) rfl #[.int .i64 a0] rfl (by (try simp only [List.map_toArray, List.map_cons, List.map_nil]); first | done | rfl | (simp only [List.length_drop, List.length_take]; rfl)) ?_; (with_reducible refine (cmp_isNaN_int.calls a0 false _ A3.out).mono ?_); rintro e w' ⟨rfl, ⟨nd, rfl⟩⟩; refine ⟨_, rfl, ?_⟩) | ((with_reducible refine gate_callee (f := 81) rfl ?_); refine goesL_ (some 10) rfl rfl Try.func81 (by kernel_rfl) rfl #[.int .i64 a1] rfl (by (try simp only [List.map_toArray, List.map_cons, List.map_nil]); first | done | rfl | (simp only [List.length_drop, List.length_take]; rfl)) ?_; (with_reducible refine (cmp_isNaN_int.calls a1 false _ A4.out).mono ?_); rintro e w' ⟨rfl, ⟨nd, rfl⟩⟩; refine ⟨_, rfl, ?_⟩))
          go_ret
          exact ⟨by first | rfl | (simp; done) | (simp [*]; done), by repeat (first | exact Drawn0.refl _ | apply Drawn0.step)⟩
        · rw [if_neg c9] at H
          have c9b0 : decide (a1 < a0) = false := decide_eq_false c9
          clear c9
          obtain rfl := Option.some.inj H
          go_enter Try.func51, Try.ntmps51
          go_wp2_with (first | ((with_reducible refine gate_callee (f := 81) rfl ?_); refine goesL_ (some 8) rfl rfl Try.func81 (by kernel_rfl) rfl #[.int .i64 a0] rfl (by (try simp only [List.map_toArray, List.map_cons, List.map_nil]); first | done | rfl | (simp only [List.length_drop, List.length_take]; rfl)) ?_; (with_reducible refine (cmp_isNaN_int.calls a0 false _ A3.out).mono ?_); rintro e w' ⟨rfl, ⟨nd, rfl⟩⟩; refine ⟨_, rfl, ?_⟩) | ((with_reducible refine gate_callee (f := 81) rfl ?_); refine goesL_ (some 10) rfl rfl Try.func81 (by kernel_rfl) rfl #[.int .i64 a1] rfl (by (try simp only [List.map_toArray, List.map_cons, List.map_nil]); first | done | rfl | (simp only [List.length_drop, List.length_take]; rfl)) ?_; (with_reducible refine (cmp_isNaN_int.calls a1 false _ A4.out).mono ?_); rintro e w' ⟨rfl, ⟨nd, rfl⟩⟩; refine ⟨_, rfl, ?_⟩))
          go_ret
          exact ⟨by first | rfl | (simp; done) | (simp [*]; done), by repeat (first | exact Drawn0.refl _ | apply Drawn0.step)⟩

end Go.Proofs.Ytehfcafmdnfamaa.G

/- Printed by the session's program over the kit's print, out of the translation: functions as plain Lean functions, and the proofs that the calls come to them. -/
namespace Go.Proofs.Ytehfcafmdnfamaa.G
open Go.RowKit Go.Proofs.YtehfcafmdnfamaaW.PrintWords Go.Proofs.YtehfcafmdnfamaaW.PrintLast Go.Proofs.YtehfcafmdnfamaaW.PrintMore
attribute [local go_sem] max2_int min2_int max_two min_two max_three min_three max_four min_four   -- for this text's walks alone
set_option linter.unusedVariables false
set_option linter.unusedSimpArgs false

/-! ### ikey_Compare: function 24 -/
def ikey_Compare.f (k : Nat) (a0_0 : ByteArray) (a0_1 : Int) (a0_2 : Int) (a1_0 : ByteArray) (a1_1 : Int) (a1_2 : Int) : Option (Int) := (strings_Compare.f a0_0 a1_0).bind fun t108 => ((cmp_Compare_uint64.f a1_1 a0_1).bind fun t109 => ((cmp_Compare_int.f a1_2 a0_2).bind fun t110 => ((cmp_Or_int.f k (([t108, t109, t110] : List Int))).bind fun t114 => (some t114))))
theorem ikey_Compare.mono : ∀ a0 a1 a2 a3 a4 a5 k, LeO (ikey_Compare.f k a0 a1 a2 a3 a4 a5) (ikey_Compare.f (k + 1) a0 a1 a2 a3 a4 a5) := by
  intro a0 a1 a2 a3 a4 a5 k
  unfold ikey_Compare.f
  repeat' first
      | (with_reducible exact cmp_Or_int.mono _ _)
      | (with_reducible exact LeO.refl _)
      | (with_reducible exact LeO.none _)
      | (with_reducible refine LeO.ite ?_ ?_)
      | (with_reducible refine LeO.bind ?_ (fun _ => ?_))
      | exact cmp_Or_int.mono _ _
      | exact LeO.none _
      | refine LeO.ite ?_ ?_
      | refine LeO.bind ?_ (fun _ => ?_)
def ikey_Compare.T1 : Bool × List (List Nat × List Nat) := (true, [([], []), ([0], [0]), ([], []), ([2], [2]), ([1, 3], [1, 3]), ([], []), ([5], [5]), ([], []), ([7], [7]), ([6, 8, 4], [6, 8]), ([], []), ([10], [10]), ([], []), ([12], [12]), ([11, 13, 9], [11, 13]), ([4, 9, 14], [4, 9, 14]), ([15, 14], [15]), ([16, 16, 0, 1, 2, 3, 4, 5, 6, 7, 8, 9, 10, 11, 12, 13, 14, 15, 16], [16])])
def ikey_Compare.B1 : List Nat := [0, 1, 0, 4, 15, 0, 32, 0, 128, 511, 0, 1024, 0, 4096, 16383, 32767, 65535, 131071]
theorem ikey_Compare.tab1 : rtab .any (opsOf Try.f24 1) = ikey_Compare.T1 := by kernel_rfl
theorem ikey_Compare.bits1 : waitsOk ikey_Compare.T1.2 ikey_Compare.B1 = true := by kernel_rfl
set_option maxHeartbeats 8000000 in
set_option maxRecDepth 100000 in
theorem ikey_Compare.calls (k : Nat) (a0_0 : ByteArray) (a0_1 : Int) (a0_2 : Int) (a1_0 : ByteArray) (a1_1 : Int) (a1_2 : Int) (r : Int) (w : World) (h : ikey_Compare.f k a0_0 a0_1 a0_2 a1_0 a1_1 a1_2 = some r) :
    Calls Try.prog 24 #[.agg #[.string a0_0, .int .u64 a0_1, .int .i64 a0_2], .agg #[.string a1_0, .int .u64 a1_1, .int .i64 a1_2]] w fun e w' => e = .returned (.int .i64 r) ∧ Below w.heap.size w w' := by
  have hu37 := Try.underlying37
  have HB := Aside0.mk (Below.refl w.heap.size w)
  have H : ((strings_Compare.f a0_0 a1_0).bind fun t108 => ((cmp_Compare_uint64.f a1_1 a0_1).bind fun t109 => ((cmp_Compare_int.f a1_2 a0_2).bind fun t110 => ((cmp_Or_int.f k (([t108, t109, t110] : List Int))).bind fun t114 => (some t114))))) = some r := h
  clear h
  replace H := Option.bind_eq_some_iff.mp H
  obtain ⟨t108, A30, H⟩ := H
  replace H : ((cmp_Compare_uint64.f a1_1 a0_1).bind fun t109 => ((cmp_Compare_int.f a1_2 a0_2).bind fun t110 => ((cmp_Or_int.f k (([t108, t109, t110] : List Int))).bind fun t114 => (some t114)))) = some r := H
  have A3 := Aside0.mk A30
  clear A30
  replace H := Option.bind_eq_some_iff.mp H
  obtain ⟨t109, A40, H⟩ := H
  replace H : ((cmp_Compare_int.f a1_2 a0_2).bind fun t110 => ((cmp_Or_int.f k (([t108, t109, t110] : List Int))).bind fun t114 => (some t114))) = some r := H
  have A4 := Aside0.mk A40
  clear A40
  replace H := Option.bind_eq_some_iff.mp H
  obtain ⟨t110, A50, H⟩ := H
  replace H : ((cmp_Or_int.f k (([t108, t109, t110] : List Int))).bind fun t114 => (some t114)) = some r := H
  have A5 := Aside0.mk A50
  clear A50
  obtain ⟨y111, hy111⟩ : ∃ y_ : List Int, y_ = (([t108, t109, t110] : List Int)) := ⟨_, rfl⟩
  replace H : ((cmp_Or_int.f k y111).bind fun t114 => (some t114)) = some r := by first | (rw [hy111]; with_reducible exact H) | (have H2_ := (Option.bind_some _ _).symm.trans H; rw [hy111]; with_reducible exact H2_) | (have H2_ := (Option.bind_some _ _).symm.trans H; with_reducible exact H2_) | with_reducible exact H | (rw [hy111]; exact H) | exact H
  have Ny111 := Aside0.mk hy111
  clear hy111
  replace H := Option.bind_eq_some_iff.mp H
  obtain ⟨t114, A60, H⟩ := H
  replace H : (some t114) = some r := H
  have A6 := Aside0.mk A60
  clear A60
  obtain rfl := Option.some.inj H
  go_enter Try.func24, Try.ntmps24
  try go_wp2_with (first | ((with_reducible refine gate_dst (N := 2) rfl ?_); refine box_event ?hg (N := 2) ?hd (cs := #[.string a0_0, .int .u64 a0_1, .int .i64 a0_2]) (t := 37) ?hr ?_; (case hd => rfl); (case hg => rfl); (case hr => first | (go_simp; done) | (go_simp; rfl)); intro gb106 hg w7 hbox hb; have n0_ := Aside0.mk (below_step (by repeat (first | (with_reducible first | exact HB.out | apply below_alloc | apply pw_below_drewN | apply below_drew1) | exact HB.out)) hb); have n1_ := Aside0.mk (hbox); have n2_ := Aside0.mk ((by rw [hg]; exact (below_size (by repeat (first | (with_reducible first | exact HB.out | apply below_alloc | apply pw_below_drewN | apply below_drew1) | exact HB.out))) : w.heap.size ≤ gb106)); have n3_ := Aside0.mk ((by rw [hg]; exact (below_size (by repeat (first | (with_reducible first | exact HB.out | apply below_alloc | apply pw_below_drewN | apply below_drew1) | exact HB.out))) : w.heap.size ≤ gb106)); clear HB; have HB := n0_; have BK106 := n1_; have GW106 := n2_; have GE106 := n3_; clear n0_ n1_ n2_ n3_; clear hb hbox hg) | ((with_reducible refine gate_dst (N := 3) rfl ?_); refine box_event ?hg (N := 3) ?hd (cs := #[.string a1_0, .int .u64 a1_1, .int .i64 a1_2]) (t := 37) ?hr ?_; (case hd => rfl); (case hg => rfl); (case hr => first | (go_simp; done) | (go_simp; rfl)); intro gb107 hg w8 hbox hb; have n0_ := Aside0.mk (blk_below (g := gb106) (o := .cells #[.string a0_0, .int .u64 a0_1, .int .i64 a0_2] 37 (0, 0)) (by (with_reducible repeat (first | refine blk_drewN ?_ _ | refine blk_drew ?_ | refine blk_alloc ?_ _)); exact BK106.out) hb); have n1_ := Aside0.mk (below_step (by repeat (first | (with_reducible first | exact HB.out | apply below_alloc | apply pw_below_drewN | apply below_drew1 | refine below_set ?_ GE106.out) | exact HB.out)) hb); have n2_ := Aside0.mk (hbox); have n3_ := Aside0.mk ((by rw [hg]; exact (below_size (by repeat (first | (with_reducible first | exact HB.out | apply below_alloc | apply pw_below_drewN | apply below_drew1 | refine below_set ?_ GE106.out) | exact HB.out))) : w.heap.size ≤ gb107)); have n4_ := Aside0.mk ((by rw [hg]; exact (below_size (by repeat (first | (with_reducible first | exact HB.out | apply below_alloc | apply pw_below_drewN | apply below_drew1 | refine below_set ?_ GE106.out) | exact HB.out))) : w.heap.size ≤ gb107)); have n5_ := Aside0.mk ((by rw [hg]; exact Nat.ne_of_lt (blk_lt (g := gb106) (o := .cells #[.string a0_0, .int .u64 a0_1, .int .i64 a0_2] 37 (0, 0)) (by (with_reducible repeat (first | refine blk_drewN ?_ _ | refine blk_drew ?_ | refine blk_alloc ?_ _)); exact BK106.out)) : gb106 ≠ gb107)); have n6_ := Aside0.mk ((by rw [hg]; exact Nat.ne_of_gt (blk_lt (g := gb106) (o := .cells #[.string a0_0, .int .u64 a0_1, .int .i64 a0_2] 37 (0, 0)) (by (with_reducible repeat (first | refine blk_drewN ?_ _ | refine blk_drew ?_ | refine blk_alloc ?_ _)); exact BK106.out)) : gb107 ≠ gb106)); clear BK106; clear HB; have BK106 := n0_; have HB := n1_; have BK107 := n2_; have GW107 := n3_; have GE107 := n4_; have NB106_107 := n5_; have NB107_106 := n6_; clear n0_ n1_ n2_ n3_ n4_ n5_ n6_; clear hb hbox hg))
  have n0_ := Aside0.mk (blk_drew BK106.out)
  have n1_ := Aside0.mk (blk_drew BK107.out)
  have n2_ := Aside0.mk (below_drew1 HB.out)
  clear BK106
  clear BK107
  clear HB
  have BK106 := n0_
  have BK107 := n1_
  have HB := n2_
  clear n0_ n1_ n2_
  refine start_ (n := 18) (S := fun w' => w'.cell? ⟨gb106, 0, none⟩ = some (.string a0_0) ∧ w'.cell? ⟨gb106, 1, none⟩ = some (.int .u64 a0_1) ∧ w'.cell? ⟨gb106, 2, none⟩ = some (.int .i64 a0_2) ∧ w'.cell? ⟨gb107, 0, none⟩ = some (.string a1_0) ∧ w'.cell? ⟨gb107, 1, none⟩ = some (.int .u64 a1_1) ∧ w'.cell? ⟨gb107, 2, none⟩ = some (.int .i64 a1_2)) (ds := []) #[false, false, false, false, false, false, false, false, false, false, false, false, false, false, false, false, false, false] (by kernel_rfl) rfl rfl ⟨(blk_cell BK106.out 0).trans rfl, (blk_cell BK106.out 1).trans rfl, (blk_cell BK106.out 2).trans rfl, (blk_cell BK107.out 0).trans rfl, (blk_cell BK107.out 1).trans rfl, (blk_cell BK107.out 2).trans rfl⟩ (fun hHeld => ?_); refine with_tabW ikey_Compare.tab1 ikey_Compare.bits1 (fun HT_ HW_ => ?_)
  generalize w8.drew = w9 at BK106 BK107 HB hHeld ⊢
  refine pure_ (i := 0) (N := some 5) (v := ?_) (a' := ?_) #[true, false, false, false, false, false, false, false, false, false, false, false, false, false, false, false, false, false] rfl rfl (any_of HT_.out (by kernel_rfl)) (fun _ _ _ h => h) (Or.inl ⟨by rfl, ?_⟩) ?_ ?_
  rotate_left
  · intro w'
    go_simp
    with_reducible rfl
  rotate_left
  · simp only [Act.put, List.setIfInBounds_toArray, List.set_cons_zero, List.set_cons_succ, i64_w, i32_w]
    rfl
  refine pure_ (i := 2) (N := some 7) (v := ?_) (a' := ?_) #[true, false, true, false, false, false, false, false, false, false, false, false, false, false, false, false, false, false] rfl rfl (any_of HT_.out (by kernel_rfl)) (fun _ _ _ h => h) (Or.inl ⟨by rfl, ?_⟩) ?_ ?_
  rotate_left
  · intro w'
    go_simp
    with_reducible rfl
  rotate_left
  · simp only [Act.put, List.setIfInBounds_toArray, List.set_cons_zero, List.set_cons_succ, i64_w, i32_w]
    rfl
  refine pure_ (i := 5) (N := some 10) (v := ?_) (a' := ?_) #[true, false, true, false, false, true, false, false, false, false, false, false, false, false, false, false, false, false] rfl rfl (any_of HT_.out (by kernel_rfl)) (fun _ _ _ h => h) (Or.inl ⟨by rfl, ?_⟩) ?_ ?_
  rotate_left
  · intro w'
    go_simp
    with_reducible rfl
  rotate_left
  · simp only [Act.put, List.setIfInBounds_toArray, List.set_cons_zero, List.set_cons_succ, i64_w, i32_w]
    rfl
  refine pure_ (i := 7) (N := some 12) (v := ?_) (a' := ?_) #[true, false, true, false, false, true, false, true, false, false, false, false, false, false, false, false, false, false] rfl rfl (any_of HT_.out (by kernel_rfl)) (fun _ _ _ h => h) (Or.inl ⟨by rfl, ?_⟩) ?_ ?_
  rotate_left
  · intro w'
    go_simp
    with_reducible rfl
  rotate_left
  · simp only [Act.put, List.setIfInBounds_toArray, List.set_cons_zero, List.set_cons_succ, i64_w, i32_w]
    rfl
  refine pure_ (i := 10) (N := some 15) (v := ?_) (a' := ?_) #[true, false, true, false, false, true, false, true, false, false, true, false, false, false, false, false, false, false] rfl rfl (any_of HT_.out (by kernel_rfl)) (fun _ _ _ h => h) (Or.inl ⟨by rfl, ?_⟩) ?_ ?_
  rotate_left
  · intro w'
    go_simp
    with_reducible rfl
  rotate_left
  · simp only [Act.put, List.setIfInBounds_toArray, List.set_cons_zero, List.set_cons_succ, i64_w, i32_w]
    rfl
  refine pure_ (i := 12) (N := some 17) (v := ?_) (a' := ?_) #[true, false, true, false, false, true, false, true, false, false, true, false, true, false, false, false, false, false] rfl rfl (any_of HT_.out (by kernel_rfl)) (fun _ _ _ h => h) (Or.inl ⟨by rfl, ?_⟩) ?_ ?_
  rotate_left
  · intro w'
    go_simp
    with_reducible rfl
  rotate_left
  · simp only [Act.put, List.setIfInBounds_toArray, List.set_cons_zero, List.set_cons_succ, i64_w, i32_w]
    rfl
  refine take_ (i := 1) (N := some 6) (v := ?_) (a' := ?_) #[true, true, true, false, false, true, false, true, false, false, true, false, true, false, false, false, false, false] rfl rfl (take_ofW HT_.out HW_.out (by kernel_rfl)) (fun _ _ _ h => h) (Or.inl ⟨by rfl, ?_⟩) hHeld ?_ ?_
  rotate_left
  · rintro w' ⟨s0, s1, s2, s3, s4, s5⟩
    go_simp
    with_reducible rfl
  rotate_left
  · simp only [Act.put, List.setIfInBounds_toArray, List.set_cons_zero, List.set_cons_succ, i64_w, i32_w]
    rfl
  refine take_ (i := 3) (N := some 8) (v := ?_) (a' := ?_) #[true, true, true, true, false, true, false, true, false, false, true, false, true, false, false, false, false, false] rfl rfl (take_ofW HT_.out HW_.out (by kernel_rfl)) (fun _ _ _ h => h) (Or.inl ⟨by rfl, ?_⟩) hHeld ?_ ?_
  rotate_left
  · rintro w' ⟨s0, s1, s2, s3, s4, s5⟩
    go_simp
    with_reducible rfl
  rotate_left
  · simp only [Act.put, List.setIfInBounds_toArray, List.set_cons_zero, List.set_cons_succ, i64_w, i32_w]
    rfl
  refine take_ (i := 6) (N := some 11) (v := ?_) (a' := ?_) #[true, true, true, true, false, true, true, true, false, false, true, false, true, false, false, false, false, false] rfl rfl (take_ofW HT_.out HW_.out (by kernel_rfl)) (fun _ _ _ h => h) (Or.inl ⟨by rfl, ?_⟩) hHeld ?_ ?_
  rotate_left
  · rintro w' ⟨s0, s1, s2, s3, s4, s5⟩
    go_simp
    with_reducible rfl
  rotate_left
  · simp only [Act.put, List.setIfInBounds_toArray, List.set_cons_zero, List.set_cons_succ, i64_w, i32_w]
    rfl
  refine take_ (i := 8) (N := some 13) (v := ?_) (a' := ?_) #[true, true, true, true, false, true, true, true, true, false, true, false, true, false, false, false, false, false] rfl rfl (take_ofW HT_.out HW_.out (by kernel_rfl)) (fun _ _ _ h => h) (Or.inl ⟨by rfl, ?_⟩) hHeld ?_ ?_
  rotate_left
  · rintro w' ⟨s0, s1, s2, s3, s4, s5⟩
    go_simp
    with_reducible rfl
  rotate_left
  · simp only [Act.put, List.setIfInBounds_toArray, List.set_cons_zero, List.set_cons_succ, i64_w, i32_w]
    rfl
  refine take_ (i := 11) (N := some 16) (v := ?_) (a' := ?_) #[true, true, true, true, false, true, true, true, true, false, true, true, true, false, false, false, false, false] rfl rfl (take_ofW HT_.out HW_.out (by kernel_rfl)) (fun _ _ _ h => h) (Or.inl ⟨by rfl, ?_⟩) hHeld ?_ ?_
  rotate_left
  · rintro w' ⟨s0, s1, s2, s3, s4, s5⟩
    go_simp
    with_reducible rfl
  rotate_left
  · simp only [Act.put, List.setIfInBounds_toArray, List.set_cons_zero, List.set_cons_succ, i64_w, i32_w]
    rfl
  refine take_ (i := 13) (N := some 18) (v := ?_) (a' := ?_) #[true, true, true, true, false, true, true, true, true, false, true, true, true, true, false, false, false, false] rfl rfl (take_ofW HT_.out HW_.out (by kernel_rfl)) (fun _ _ _ h => h) (Or.inl ⟨by rfl, ?_⟩) hHeld ?_ ?_
  rotate_left
  · rintro w' ⟨s0, s1, s2, s3, s4, s5⟩
    go_simp
    with_reducible rfl
  rotate_left
  · simp only [Act.put, List.setIfInBounds_toArray, List.set_cons_zero, List.set_cons_succ, i64_w, i32_w]
    rfl
  refine one_ (i := 4) (N := some 9) #[true, true, true, true, true, true, true, true, true, false, true, true, true, true, false, false, false, false] rfl rfl (one_of HT_.out (by kernel_rfl)) (by decide) (fun K hK => ?_)
  refine goes_ Try.func49 (by kernel_rfl) rfl #[.string a0_0, .string a1_0] (by rfl) rfl rfl (by (try simp only [List.map_toArray, List.map_cons, List.map_nil]); first | done | rfl | (simp only [List.length_drop, List.length_take]; rfl)) ?_
  with_reducible refine (strings_Compare.calls a0_0 a1_0 t108 _ A3.out).mono ?_
  rintro e w' ⟨rfl, ⟨nd, rfl⟩⟩
  refine ⟨_, rfl, ?_⟩
  refine hK.out _ _ ⟨(blk_cell BK106.out 0).trans rfl, (blk_cell BK106.out 1).trans rfl, (blk_cell BK106.out 2).trans rfl, (blk_cell BK107.out 0).trans rfl, (blk_cell BK107.out 1).trans rfl, (blk_cell BK107.out 2).trans rfl⟩ (fun hHeld => ?_)
  clear hK K
  refine norm_ (a' := ?_) ?_ ?_
  rotate_left
  · show Act.put _ (some 9) _ = _
    simp only [Act.put, List.setIfInBounds_toArray, List.set_cons_zero, List.set_cons_succ, i64_w, i32_w]
    rfl
  refine one_ (i := 9) (N := some 14) #[true, true, true, true, true, true, true, true, true, true, true, true, true, true, false, false, false, false] rfl rfl (one_of HT_.out (by kernel_rfl)) (by decide) (fun K hK => ?_)
  refine goes_ Try.func50 (by kernel_rfl) rfl #[.int .u64 a1_1, .int .u64 a0_1] (by rfl) rfl rfl (by (try simp only [List.map_toArray, List.map_cons, List.map_nil]); first | done | rfl | (simp only [List.length_drop, List.length_take]; rfl)) ?_
  with_reducible refine (cmp_Compare_uint64.calls a1_1 a0_1 t109 _ A4.out).mono ?_
  rintro e w' ⟨rfl, ⟨nd, rfl⟩⟩
  refine ⟨_, rfl, ?_⟩
  refine hK.out _ _ ⟨(blk_cell BK106.out 0).trans rfl, (blk_cell BK106.out 1).trans rfl, (blk_cell BK106.out 2).trans rfl, (blk_cell BK107.out 0).trans rfl, (blk_cell BK107.out 1).trans rfl, (blk_cell BK107.out 2).trans rfl⟩ (fun hHeld => ?_)
  clear hK K
  refine norm_ (a' := ?_) ?_ ?_
  rotate_left
  · show Act.put _ (some 14) _ = _
    simp only [Act.put, List.setIfInBounds_toArray, List.set_cons_zero, List.set_cons_succ, i64_w, i32_w]
    rfl
  refine one_ (i := 14) (N := some 19) #[true, true, true, true, true, true, true, true, true, true, true, true, true, true, true, false, false, false] rfl rfl (one_of HT_.out (by kernel_rfl)) (by decide) (fun K hK => ?_)
  refine goes_ Try.func51 (by kernel_rfl) rfl #[.int .i64 a1_2, .int .i64 a0_2] (by rfl) rfl rfl (by (try simp only [List.map_toArray, List.map_cons, List.map_nil]); first | done | rfl | (simp only [List.length_drop, List.length_take]; rfl)) ?_
  with_reducible refine (cmp_Compare_int.calls a1_2 a0_2 t110 _ A5.out).mono ?_
  rintro e w' ⟨rfl, ⟨nd, rfl⟩⟩
  refine ⟨_, rfl, ?_⟩
  refine hK.out _ _ ⟨(blk_cell BK106.out 0).trans rfl, (blk_cell BK106.out 1).trans rfl, (blk_cell BK106.out 2).trans rfl, (blk_cell BK107.out 0).trans rfl, (blk_cell BK107.out 1).trans rfl, (blk_cell BK107.out 2).trans rfl⟩ (fun hHeld => ?_)
  clear hK K
  refine norm_ (a' := ?_) ?_ ?_
  rotate_left
  · show Act.put _ (some 19) _ = _
    simp only [Act.put, List.setIfInBounds_toArray, List.set_cons_zero, List.set_cons_succ, i64_w, i32_w]
    rfl
  refine one_ (i := 15) (N := some 20) #[true, true, true, true, true, true, true, true, true, true, true, true, true, true, true, true, false, false] rfl rfl (one_of HT_.out (by kernel_rfl)) (by decide) (fun K hK => ?_)
  refine Kd.R_lit_step (Kd.int .i64) _ 3 ?hg (N := 20) ?hd (xs := ([t108, t109, t110] : List Int)) (inner := [.int .i64 t108, .int .i64 t109, .int .i64 t110]) (ok := fun _ => True) (okp := fun _ => True) ?hr ?hp (fun _ hk => hk) trivial (Below.refl _ _) (Nat.le_refl _) (by simp) ?_; (case hd => rfl); (case hg => rfl); (case hr => first | (go_simp; done) | (go_simp; rfl)); (case hp => exact (Reps.one (show Kd.M (Kd.int .i64) _ _ _ t108 [.int .i64 t108] from rfl) (Reps.one (show Kd.M (Kd.int .i64) _ _ _ t109 [.int .i64 t109] from rfl) (Reps.one (show Kd.M (Kd.int .i64) _ _ _ t110 [.int .i64 t110] from rfl) (Reps.none _ _)))))
  intro v112 w10 ho11 hb hg_ hnew_
  clear hg_ hnew_
  (first | rw [← Ny111.out] at ho11 | (simp only [Int.reduceToNat] at ho11; rw [← Ny111.out] at ho11))
  have n0_ := Aside0.mk (Kd.R_lower ho11 (below_size (by repeat (first | (with_reducible first | exact HB.out | apply below_alloc | apply pw_below_drewN | apply below_drew1 | refine below_set ?_ GE106.out | refine below_set ?_ GE107.out) | exact HB.out))))
  have n1_ := Aside0.mk (blk_below (g := gb106) (o := .cells #[.string a0_0, .int .u64 a0_1, .int .i64 a0_2] 37 (0, 0)) (by (with_reducible repeat (first | refine blk_drewN ?_ _ | refine blk_drew ?_ | refine blk_alloc ?_ _)); exact BK106.out) hb)
  have n2_ := Aside0.mk (blk_below (g := gb107) (o := .cells #[.string a1_0, .int .u64 a1_1, .int .i64 a1_2] 37 (0, 0)) (by (with_reducible repeat (first | refine blk_drewN ?_ _ | refine blk_drew ?_ | refine blk_alloc ?_ _)); exact BK107.out) hb)
  have n3_ := Aside0.mk (below_step (by repeat (first | (with_reducible first | exact HB.out | apply below_alloc | apply pw_below_drewN | apply below_drew1 | refine below_set ?_ GE106.out | refine below_set ?_ GE107.out) | exact HB.out)) hb)
  clear BK106
  clear BK107
  clear HB
  have HO113 := n0_
  have BK106 := n1_
  have BK107 := n2_
  have HB := n3_
  clear n0_ n1_ n2_ n3_
  clear hb ho11
  obtain ⟨Ao12, co12, eo12⟩ := Kd.R_slice HO113.out
  (first | subst eo12 | (injection eo12 with f1_ f2_ f3_; have f4_ := f1_.symm; have f5_ := f3_.symm; clear f1_ f2_ f3_; subst f4_; subst f5_))
  refine hK.out _ _ ⟨(blk_cell BK106.out 0).trans rfl, (blk_cell BK106.out 1).trans rfl, (blk_cell BK106.out 2).trans rfl, (blk_cell BK107.out 0).trans rfl, (blk_cell BK107.out 1).trans rfl, (blk_cell BK107.out 2).trans rfl⟩ (fun hHeld => ?_)
  clear hK K
  refine norm_ (a' := ?_) ?_ ?_
  rotate_left
  · show Act.put _ (some 20) _ = _
    simp only [Act.put, List.setIfInBounds_toArray, List.set_cons_zero, List.set_cons_succ, i64_w, i32_w]
    rfl
  refine one_ (i := 16) (N := some 21) #[true, true, true, true, true, true, true, true, true, true, true, true, true, true, true, true, true, false] rfl rfl (one_of HT_.out (by kernel_rfl)) (by decide) (fun K hK => ?_)
  refine goes_ Try.func48 (by kernel_rfl) rfl #[.slice Ao12 y111.length co12] (by rfl) rfl rfl (by (try simp only [List.map_toArray, List.map_cons, List.map_nil]); first | done | rfl | (simp only [List.length_drop, List.length_take]; rfl)) ?_
  with_reducible refine (cmp_Or_int.calls k _ _ y111 t114 _ ?side1 ?side2 A6.out).mono ?_
  (case side1 => repeat (first | exact (Kd.R_reads' HO113.out).2.2 | (with_reducible refine Kd.C_alloc ?_ _) | (with_reducible refine Kd.C_drewN ?_ _) | (with_reducible refine Kd.C_drew ?_)))
  (case side2 => exact (Kd.R_reads' HO113.out).2.1)
  rintro e w' ⟨rfl, ⟨nd, rfl⟩⟩
  refine ⟨_, rfl, ?_⟩
  refine hK.out _ _ ⟨(blk_cell BK106.out 0).trans rfl, (blk_cell BK106.out 1).trans rfl, (blk_cell BK106.out 2).trans rfl, (blk_cell BK107.out 0).trans rfl, (blk_cell BK107.out 1).trans rfl, (blk_cell BK107.out 2).trans rfl⟩ (fun hHeld => ?_)
  clear hK K
  refine norm_ (a' := ?_) ?_ ?_
  rotate_left
  · show Act.put _ (some 21) _ = _
    simp only [Act.put, List.setIfInBounds_toArray, List.set_cons_zero, List.set_cons_succ, i64_w, i32_w]
    rfl
  refine pure_ (i := 17) (N := some 4) (v := ?_) (a' := ?_) #[true, true, true, true, true, true, true, true, true, true, true, true, true, true, true, true, true, true] rfl rfl (any_of HT_.out (by kernel_rfl)) (fun _ _ _ h => h) (Or.inl ⟨by rfl, ?_⟩) ?_ ?_
  rotate_left
  · intro w'
    go_simp
    with_reducible rfl
  rotate_left
  · simp only [Act.put, List.setIfInBounds_toArray, List.set_cons_zero, List.set_cons_succ, i64_w, i32_w]
    rfl
  refine done_ (done_of HT_.out (by kernel_rfl)) ?_
  try go_wp2
  go_ret
  exact ⟨by first | rfl | (simp [errW_none, errW_some] <;> rfl) | (simp [*, errW_none, errW_some] <;> rfl), by repeat (first | (with_reducible first | exact HB.out | apply below_alloc | apply pw_below_drewN | apply below_drew1 | refine below_set ?_ GE106.out | refine below_set ?_ GE107.out) | exact HB.out)⟩

end Go.Proofs.Ytehfcafmdnfamaa.G

/- Printed by the session's program over the kit's print, out of the translation: functions as plain Lean functions, and the proofs that the calls come to them. -/
namespace Go.Proofs.Ytehfcafmdnfamaa.G
open Go.RowKit Go.Proofs.YtehfcafmdnfamaaW.PrintWords Go.Proofs.YtehfcafmdnfamaaW.PrintLast Go.Proofs.YtehfcafmdnfamaaW.PrintMore
attribute [local go_sem] max2_int min2_int max_two min_two max_three min_three max_four min_four   -- for this text's walks alone
set_option linter.unusedVariables false
set_option linter.unusedSimpArgs false

/-! ### moraineref03_Compare: function 78 -/
def moraineref03_Compare.f (a0_0 : ByteArray) (a0_1 : Int) (a0_2 : Int) (a1_0 : ByteArray) (a1_1 : Int) (a1_2 : Int) : Option (Int) := if a0_0.toList = a1_0.toList then (if a0_1 = a1_1 then (if a0_2 = a1_2 then (some 0) else (if a0_2 > a1_2 then (some (-1)) else (some 1))) else (if a0_1 > a1_1 then (some (-1)) else (some 1))) else (if (Op.bytesLess a0_0.toList a1_0.toList) = true then (some (-1)) else (some 1))
set_option maxHeartbeats 8000000 in
set_option maxRecDepth 100000 in
theorem moraineref03_Compare.calls (a0_0 : ByteArray) (a0_1 : Int) (a0_2 : Int) (a1_0 : ByteArray) (a1_1 : Int) (a1_2 : Int) (r : Int) (w : World) (h : moraineref03_Compare.f a0_0 a0_1 a0_2 a1_0 a1_1 a1_2 = some r) :
    Calls Try.prog 78 #[.agg #[.string a0_0, .int .u64 a0_1, .int .i64 a0_2], .agg #[.string a1_0, .int .u64 a1_1, .int .i64 a1_2]] w fun e w' => e = .returned (.int .i64 r) ∧ Below w.heap.size w w' := by
  have hu37 := Try.underlying37
  have HB := Aside0.mk (Below.refl w.heap.size w)
  have H : (if a0_0.toList = a1_0.toList then (if a0_1 = a1_1 then (if a0_2 = a1_2 then (some 0) else (if a0_2 > a1_2 then (some (-1)) else (some 1))) else (if a0_1 > a1_1 then (some (-1)) else (some 1))) else (if (Op.bytesLess a0_0.toList a1_0.toList) = true then (some (-1)) else (some 1))) = some r := h
  clear h
  by_cases c3 : a0_0.toList = a1_0.toList
  · rw [if_pos c3] at H
    have c3b0 : (a0_0.toList == a1_0.toList) = true := beq_iff_eq.mpr c3
    have c3b1 : (a0_0.toList != a1_0.toList) = false := bne_eq_false_iff_eq.mpr c3
    clear c3
    by_cases c4 : a0_1 = a1_1
    · rw [if_pos c4] at H
      have c4b0 : (a0_1 == a1_1) = true := beq_iff_eq.mpr c4
      have c4b1 : (a0_1 != a1_1) = false := bne_eq_false_iff_eq.mpr c4
      clear c4
      by_cases c5 : a0_2 = a1_2
      · rw [if_pos c5] at H
        have c5b0 : (a0_2 == a1_2) = true := beq_iff_eq.mpr c5
        have c5b1 : (a0_2 != a1_2) = false := bne_eq_false_iff_eq.mpr c5
        clear c5
        obtain rfl := Option.some.inj H
        go_enter Try.func78, Try.ntmps78
        go_wp2_with (first | ((with_reducible refine gate_dst (N := 2) rfl ?_); refine box_event ?hg (N := 2) ?hd (cs := #[.string a0_0, .int .u64 a0_1, .int .i64 a0_2]) (t := 37) ?hr ?_; (case hd => rfl); (case hg => rfl); (case hr => first | (go_simp; done) | (go_simp; rfl)); intro gb128 hg w6 hbox hb; have n0_ := Aside0.mk (below_step (by repeat (first | (with_reducible first | exact HB.out | apply below_alloc | apply pw_below_drewN | apply below_drew1) | exact HB.out)) hb); have n1_ := Aside0.mk (hbox); have n2_ := Aside0.mk ((by rw [hg]; exact (below_size (by repeat (first | (with_reducible first | exact HB.out | apply below_alloc | apply pw_below_drewN | apply below_drew1) | exact HB.out))) : w.heap.size ≤ gb128)); have n3_ := Aside0.mk ((by rw [hg]; exact (below_size (by repeat (first | (with_reducible first | exact HB.out | apply below_alloc | apply pw_below_drewN | apply below_drew1) | exact HB.out))) : w.heap.size ≤ gb128)); clear HB; have HB := n0_; have BK128 := n1_; have GW128 := n2_; have GE128 := n3_; clear n0_ n1_ n2_ n3_; clear hb hbox hg) | ((with_reducible refine gate_dst (N := 3) rfl ?_); refine box_event ?hg (N := 3) ?hd (cs := #[.string a1_0, .int .u64 a1_1, .int .i64 a1_2]) (t := 37) ?hr ?_; (case hd => rfl); (case hg => rfl); (case hr => first | (go_simp; done) | (go_simp; rfl)); intro gb129 hg w7 hbox hb; have n0_ := Aside0.mk (blk_below (g := gb128) (o := .cells #[.string a0_0, .int .u64 a0_1, .int .i64 a0_2] 37 (0, 0)) (by (with_reducible repeat (first | refine blk_drewN ?_ _ | refine blk_drew ?_ | refine blk_alloc ?_ _)); exact BK128.out) hb); have n1_ := Aside0.mk (below_step (by repeat (first | (with_reducible first | exact HB.out | apply below_alloc | apply pw_below_drewN | apply below_drew1 | refine below_set ?_ GE128.out) | exact HB.out)) hb); have n2_ := Aside0.mk (hbox); have n3_ := Aside0.mk ((by rw [hg]; exact (below_size (by repeat (first | (with_reducible first | exact HB.out | apply below_alloc | apply pw_below_drewN | apply below_drew1 | refine below_set ?_ GE128.out) | exact HB.out))) : w.heap.size ≤ gb129)); have n4_ := Aside0.mk ((by rw [hg]; exact (below_size (by repeat (first | (with_reducible first | exact HB.out | apply below_alloc | apply pw_below_drewN | apply below_drew1 | refine below_set ?_ GE128.out) | exact HB.out))) : w.heap.size ≤ gb129)); have n5_ := Aside0.mk ((by rw [hg]; exact Nat.ne_of_lt (blk_lt (g := gb128) (o := .cells #[.string a0_0, .int .u64 a0_1, .int .i64 a0_2] 37 (0, 0)) (by (with_reducible repeat (first | refine blk_drewN ?_ _ | refine blk_drew ?_ | refine blk_alloc ?_ _)); exact BK128.out)) : gb128 ≠ gb129)); have n6_ := Aside0.mk ((by rw [hg]; exact Nat.ne_of_gt (blk_lt (g := gb128) (o := .cells #[.string a0_0, .int .u64 a0_1, .int .i64 a0_2] 37 (0, 0)) (by (with_reducible repeat (first | refine blk_drewN ?_ _ | refine blk_drew ?_ | refine blk_alloc ?_ _)); exact BK128.out)) : gb129 ≠ gb128)); clear BK128; clear HB; have BK128 := n0_; have HB := n1_; have BK129 := n2_; have GW129 := n3_; have GE129 := n4_; have NB128_129 := n5_; have NB129_128 := n6_; clear n0_ n1_ n2_ n3_ n4_ n5_ n6_; clear hb hbox hg; have hnb8 := NB128_129.out; have hnc8 := NB129_128.out; have hcz9_0 : w7.cell? ⟨gb128, 0, none⟩ = some (.string a0_0) := (blk_cell BK128.out 0).trans rfl; have hcz9_1 : w7.cell? ⟨gb128, 1, none⟩ = some (.int .u64 a0_1) := (blk_cell BK128.out 1).trans rfl; have hcz9_2 : w7.cell? ⟨gb128, 2, none⟩ = some (.int .i64 a0_2) := (blk_cell BK128.out 2).trans rfl; have hfz9_0 := blk_frozen BK128.out 0; have hfz9_1 := blk_frozen BK128.out 1; have hfz9_2 := blk_frozen BK128.out 2; have hcz10_0 : w7.cell? ⟨gb129, 0, none⟩ = some (.string a1_0) := (blk_cell BK129.out 0).trans rfl; have hcz10_1 : w7.cell? ⟨gb129, 1, none⟩ = some (.int .u64 a1_1) := (blk_cell BK129.out 1).trans rfl; have hcz10_2 : w7.cell? ⟨gb129, 2, none⟩ = some (.int .i64 a1_2) := (blk_cell BK129.out 2).trans rfl; have hfz10_0 := blk_frozen BK129.out 0; have hfz10_1 := blk_frozen BK129.out 1; have hfz10_2 := blk_frozen BK129.out 2))
        go_ret
        exact ⟨by first | rfl | (simp [errW_none, errW_some] <;> rfl) | (simp [*, errW_none, errW_some] <;> rfl), by repeat (first | (with_reducible first | exact HB.out | apply below_alloc | apply pw_below_drewN | apply below_drew1 | refine below_set ?_ GE128.out | refine below_set ?_ GE129.out) | exact HB.out)⟩
      · rw [if_neg c5] at H
        have c5b0 : (a0_2 == a1_2) = false := beq_eq_false_iff_ne.mpr c5
        have c5b1 : (a0_2 != a1_2) = true := bne_iff_ne.mpr c5
        by_cases c11 : a0_2 > a1_2
        · rw [if_pos c11] at H
          have c11b0 : decide (a1_2 < a0_2) = true := decide_eq_true c11
          clear c11
          obtain rfl := Option.some.inj H
          go_enter Try.func78, Try.ntmps78
          go_wp2_with (first | ((with_reducible refine gate_dst (N := 2) rfl ?_); refine box_event ?hg (N := 2) ?hd (cs := #[.string a0_0, .int .u64 a0_1, .int .i64 a0_2]) (t := 37) ?hr ?_; (case hd => rfl); (case hg => rfl); (case hr => first | (go_simp; done) | (go_simp; rfl)); intro gb128 hg w12 hbox hb; have n0_ := Aside0.mk (below_step (by repeat (first | (with_reducible first | exact HB.out | apply below_alloc | apply pw_below_drewN | apply below_drew1) | exact HB.out)) hb); have n1_ := Aside0.mk (hbox); have n2_ := Aside0.mk ((by rw [hg]; exact (below_size (by repeat (first | (with_reducible first | exact HB.out | apply below_alloc | apply pw_below_drewN | apply below_drew1) | exact HB.out))) : w.heap.size ≤ gb128)); have n3_ := Aside0.mk ((by rw [hg]; exact (below_size (by repeat (first | (with_reducible first | exact HB.out | apply below_alloc | apply pw_below_drewN | apply below_drew1) | exact HB.out))) : w.heap.size ≤ gb128)); clear HB; have HB := n0_; have BK128 := n1_; have GW128 := n2_; have GE128 := n3_; clear n0_ n1_ n2_ n3_; clear hb hbox hg) | ((with_reducible refine gate_dst (N := 3) rfl ?_); refine box_event ?hg (N := 3) ?hd (cs := #[.string a1_0, .int .u64 a1_1, .int .i64 a1_2]) (t := 37) ?hr ?_; (case hd => rfl); (case hg => rfl); (case hr => first | (go_simp; done) | (go_simp; rfl)); intro gb129 hg w13 hbox hb; have n0_ := Aside0.mk (blk_below (g := gb128) (o := .cells #[.string a0_0, .int .u64 a0_1, .int .i64 a0_2] 37 (0, 0)) (by (with_reducible repeat (first | refine blk_drewN ?_ _ | refine blk_drew ?_ | refine blk_alloc ?_ _)); exact BK128.out) hb); have n1_ := Aside0.mk (below_step (by repeat (first | (with_reducible first | exact HB.out | apply below_alloc | apply pw_below_drewN | apply below_drew1 | refine below_set ?_ GE128.out) | exact HB.out)) hb); have n2_ := Aside0.mk (hbox); have n3_ := Aside0.mk ((by rw [hg]; exact (below_size (by repeat (first | (with_reducible first | exact HB.out | apply below_alloc | apply pw_below_drewN | apply below_drew1 | refine below_set ?_ GE128.out) | exact HB.out))) : w.heap.size ≤ gb129)); have n4_ := Aside0.mk ((by rw [hg]; exact (below_size (by repeat (first | (with_reducible first | exact HB.out | apply below_alloc | apply pw_below_drewN | apply below_drew1 | refine below_set ?_ GE128.out) | exact HB.out))) : w.heap.size ≤ gb129)); have n5_ := Aside0.mk ((by rw [hg]; exact Nat.ne_of_lt (blk_lt (g := gb128) (o := .cells #[.string a0_0, .int .u64 a0_1, .int .i64 a0_2] 37 (0, 0)) (by (with_reducible repeat (first | refine blk_drewN ?_ _ | refine blk_drew ?_ | refine blk_alloc ?_ _)); exact BK128.out)) : gb128 ≠ gb129)); have n6_ := Aside0.mk ((by rw [hg]; exact Nat.ne_of_gt (blk_lt (g := gb128) (o := .cells #[.string a0_0, .int .u64 a0_1, .int .i64 a0_2] 37 (0, 0)) (by (with_reducible repeat (first | refine blk_drewN ?_ _ | refine blk_drew ?_ | refine blk_alloc ?_ _)); exact BK128.out)) : gb129 ≠ gb128)); clear BK128; clear HB; have BK128 := n0_; have HB := n1_; have BK129 := n2_; have GW129 := n3_; have GE129 := n4_; have NB128_129 := n5_; have NB129_128 := n6_; clear n0_ n1_ n2_ n3_ n4_ n5_ n6_; clear hb hbox hg; have hnb14 := NB128_129.out; have hnc14 := NB129_128.out; have hcz15_0 : w13.cell? ⟨gb128, 0, none⟩ = some (.string a0_0) := (blk_cell BK128.out 0).trans rfl; have hcz15_1 : w13.cell? ⟨gb128, 1, none⟩ = some (.int .u64 a0_1) := (blk_cell BK128.out 1).trans rfl; have hcz15_2 : w13.cell? ⟨gb128, 2, none⟩ = some (.int .i64 a0_2) := (blk_cell BK128.out 2).trans rfl; have hfz15_0 := blk_frozen BK128.out 0; have hfz15_1 := blk_frozen BK128.out 1; have hfz15_2 := blk_frozen BK128.out 2; have hcz16_0 : w13.cell? ⟨gb129, 0, none⟩ = some (.string a1_0) := (blk_cell BK129.out 0).trans rfl; have hcz16_1 : w13.cell? ⟨gb129, 1, none⟩ = some (.int .u64 a1_1) := (blk_cell BK129.out 1).trans rfl; have hcz16_2 : w13.cell? ⟨gb129, 2, none⟩ = some (.int .i64 a1_2) := (blk_cell BK129.out 2).trans rfl; have hfz16_0 := blk_frozen BK129.out 0; have hfz16_1 := blk_frozen BK129.out 1; have hfz16_2 := blk_frozen BK129.out 2))
          go_ret
          exact ⟨by first | rfl | (simp [errW_none, errW_some] <;> rfl) | (simp [*, errW_none, errW_some] <;> rfl), by repeat (first | (with_reducible first | exact HB.out | apply below_alloc | apply pw_below_drewN | apply below_drew1 | refine below_set ?_ GE128.out | refine below_set ?_ GE129.out) | exact HB.out)⟩
        · rw [if_neg c11] at H
          have c11b0 : decide (a1_2 < a0_2) = false := decide_eq_false c11
          clear c11
          obtain rfl := Option.some.inj H
          go_enter Try.func78, Try.ntmps78
          go_wp2_with (first | ((with_reducible refine gate_dst (N := 2) rfl ?_); refine box_event ?hg (N := 2) ?hd (cs := #[.string a0_0, .int .u64 a0_1, .int .i64 a0_2]) (t := 37) ?hr ?_; (case hd => rfl); (case hg => rfl); (case hr => first | (go_simp; done) | (go_simp; rfl)); intro gb128 hg w17 hbox hb; have n0_ := Aside0.mk (below_step (by repeat (first | (with_reducible first | exact HB.out | apply below_alloc | apply pw_below_drewN | apply below_drew1) | exact HB.out)) hb); have n1_ := Aside0.mk (hbox); have n2_ := Aside0.mk ((by rw [hg]; exact (below_size (by repeat (first | (with_reducible first | exact HB.out | apply below_alloc | apply pw_below_drewN | apply below_drew1) | exact HB.out))) : w.heap.size ≤ gb128)); have n3_ := Aside0.mk ((by rw [hg]; exact (below_size (by repeat (first | (with_reducible first | exact HB.out | apply below_alloc | apply pw_below_drewN | apply below_drew1) | exact HB.out))) : w.heap.size ≤ gb128)); clear HB; have HB := n0_; have BK128 := n1_; have GW128 := n2_; have GE128 := n3_; clear n0_ n1_ n2_ n3_; clear hb hbox hg) | ((with_reducible refine gate_dst (N := 3) rfl ?_); refine box_event ?hg (N := 3) ?hd (cs := #[.string a1_0, .int .u64 a1_1, .int .i64 a1_2]) (t := 37) ?hr ?_; (case hd => rfl); (case hg => rfl); (case hr => first | (go_simp; done) | (go_simp; rfl)); intro gb129 hg w18 hbox hb; have n0_ := Aside0.mk (blk_below (g := gb128) (o := .cells #[.string a0_0, .int .u64 a0_1, .int .i64 a0_2] 37 (0, 0)) (by (with_reducible repeat (first | refine blk_drewN ?_ _ | refine blk_drew ?_ | refine blk_alloc ?_ _)); exact BK128.out) hb); have n1_ := Aside0.mk (below_step (by repeat (first | (with_reducible first | exact HB.out | apply below_alloc | apply pw_below_drewN | apply below_drew1 | refine below_set ?_ GE128.out) | exact HB.out)) hb); have n2_ := Aside0.mk (hbox); have n3_ := Aside0.mk ((by rw [hg]; exact (below_size (by repeat (first | (with_reducible first | exact HB.out | apply below_alloc | apply pw_below_drewN | apply below_drew1 | refine below_set ?_ GE128.out) | exact HB.out))) : w.heap.size ≤ gb129)); have n4_ := Aside0.mk ((by rw [hg]; exact (below_size (by repeat (first | (with_reducible first | exact HB.out | apply below_alloc | apply pw_below_drewN | apply below_drew1 | refine below_set ?_ GE128.out) | exact HB.out))) : w.heap.size ≤ gb129)); have n5_ := Aside0.mk ((by rw [hg]; exact Nat.ne_of_lt (blk_lt (g := gb128) (o := .cells #[.string a0_0, .int .u64 a0_1, .int .i64 a0_2] 37 (0, 0)) (by (with_reducible repeat (first | refine blk_drewN ?_ _ | refine blk_drew ?_ | refine blk_alloc ?_ _)); exact BK128.out)) : gb128 ≠ gb129)); have n6_ := Aside0.mk ((by rw [hg]; exact Nat.ne_of_gt (blk_lt (g := gb128) (o := .cells #[.string a0_0, .int .u64 a0_1, .int .i64 a0_2] 37 (0, 0)) (by (with_reducible repeat (first | refine blk_drewN ?_ _ | refine blk_drew ?_ | refine blk_alloc ?_ _)); exact BK128.out)) : gb129 ≠ gb128)); clear BK128; clear HB; have BK128 := n0_; have HB := n1_; have BK129 := n2_; have GW129 := n3_; have GE129 := n4_; have NB128_129 := n5_; have NB129_128 := n6_; clear n0_ n1_ n2_ n3_ n4_ n5_ n6_; clear hb hbox hg; have hnb19 := NB128_129.out; have hnc19 := NB129_128.out; have hcz20_0 : w18.cell? ⟨gb128, 0, none⟩ = some (.string a0_0) := (blk_cell BK128.out 0).trans rfl; have hcz20_1 : w18.cell? ⟨gb128, 1, none⟩ = some (.int .u64 a0_1) := (blk_cell BK128.out 1).trans rfl; have hcz20_2 : w18.cell? ⟨gb128, 2, none⟩ = some (.int .i64 a0_2) := (blk_cell BK128.out 2).trans rfl; have hfz20_0 := blk_frozen BK128.out 0; have hfz20_1 := blk_frozen BK128.out 1; have hfz20_2 := blk_frozen BK128.out 2; have hcz21_0 : w18.cell? ⟨gb129, 0, none⟩ = some (.string a1_0) := (blk_cell BK129.out 0).trans rfl; have hcz21_1 : w18.cell? ⟨gb129, 1, none⟩ = some (.int .u64 a1_1) := (blk_cell BK129.out 1).trans rfl; have hcz21_2 : w18.cell? ⟨gb129, 2, none⟩ = some (.int .i64 a1_2) := (blk_cell BK129.out 2).trans rfl; have hfz21_0 := blk_frozen BK129.out 0; have hfz21_1 := blk_frozen BK129.out 1; have hfz21_2 := blk_frozen BK129.out 2))
          go_ret
          exact ⟨by first | rfl | (simp [errW_none, errW_some] <;> rfl) | (simp [*, errW_none, errW_some] <;> rfl), by repeat (first | (with_reducible first | exact HB.out | apply below_alloc | apply pw_below_drewN | apply below_drew1 | refine below_set ?_ GE128.out | refine below_set ?_ GE129.out) | exact HB.out)⟩
    · rw [if_neg c4] at H
      have c4b0 : (a0_1 == a1_1) = false := beq_eq_false_iff_ne.mpr c4
      have c4b1 : (a0_1 != a1_1) = true := bne_iff_ne.mpr c4
      by_cases c22 : a0_1 > a1_1
      · rw [if_pos c22] at H
        have c22b0 : decide (a1_1 < a0_1) = true := decide_eq_true c22
        clear c22
        obtain rfl := Option.some.inj H
        go_enter Try.func78, Try.ntmps78
        go_wp2_with (first | ((with_reducible refine gate_dst (N := 2) rfl ?_); refine box_event ?hg (N := 2) ?hd (cs := #[.string a0_0, .int .u64 a0_1, .int .i64 a0_2]) (t := 37) ?hr ?_; (case hd => rfl); (case hg => rfl); (case hr => first | (go_simp; done) | (go_simp; rfl)); intro gb128 hg w23 hbox hb; have n0_ := Aside0.mk (below_step (by repeat (first | (with_reducible first | exact HB.out | apply below_alloc | apply pw_below_drewN | apply below_drew1) | exact HB.out)) hb); have n1_ := Aside0.mk (hbox); have n2_ := Aside0.mk ((by rw [hg]; exact (below_size (by repeat (first | (with_reducible first | exact HB.out | apply below_alloc | apply pw_below_drewN | apply below_drew1) | exact HB.out))) : w.heap.size ≤ gb128)); have n3_ := Aside0.mk ((by rw [hg]; exact (below_size (by repeat (first | (with_reducible first | exact HB.out | apply below_alloc | apply pw_below_drewN | apply below_drew1) | exact HB.out))) : w.heap.size ≤ gb128)); clear HB; have HB := n0_; have BK128 := n1_; have GW128 := n2_; have GE128 := n3_; clear n0_ n1_ n2_ n3_; clear hb hbox hg) | ((with_reducible refine gate_dst (N := 3) rfl ?_); refine box_event ?hg (N := 3) ?hd (cs := #[.string a1_0, .int .u64 a1_1, .int .i64 a1_2]) (t := 37) ?hr ?_; (case hd => rfl); (case hg => rfl); (case hr => first | (go_simp; done) | (go_simp; rfl)); intro gb129 hg w24 hbox hb; have n0_ := Aside0.mk (blk_below (g := gb128) (o := .cells #[.string a0_0, .int .u64 a0_1, .int .i64 a0_2] 37 (0, 0)) (by (with_reducible repeat (first | refine blk_drewN ?_ _ | refine blk_drew ?_ | refine blk_alloc ?_ _)); exact BK128.out) hb); have n1_ := Aside0.mk (below_step (by repeat (first | (with_reducible first | exact HB.out | apply below_alloc | apply pw_below_drewN | apply below_drew1 | refine below_set ?_ GE128.out) | exact HB.out)) hb); have n2_ := Aside0.mk (hbox); have n3_ := Aside0.mk ((by rw [hg]; exact (below_size (by repeat (first | (with_reducible first | exact HB.out | apply below_alloc | apply pw_below_drewN | apply below_drew1 | refine below_set ?_ GE128.out) | exact HB.out))) : w.heap.size ≤ gb129)); have n4_ := Aside0.mk ((by rw [hg]; exact (below_size (by repeat (first | (with_reducible first | exact HB.out | apply below_alloc | apply pw_below_drewN | apply below_drew1 | refine below_set ?_ GE128.out) | exact HB.out))) : w.heap.size ≤ gb129)); have n5_ := Aside0.mk ((by rw [hg]; exact Nat.ne_of_lt (blk_lt (g := gb128) (o := .cells #[.string a0_0, .int .u64 a0_1, .int .i64 a0_2] 37 (0, 0)) (by (with_reducible repeat (first | refine blk_drewN ?_ _ | refine blk_drew ?_ | refine blk_alloc ?_ _)); exact BK128.out)) : gb128 ≠ gb129)); have n6_ := Aside0.mk ((by rw [hg]; exact Nat.ne_of_gt (blk_lt (g := gb128) (o := .cells #[.string a0_0, .int .u64 a0_1, .int .i64 a0_2] 37 (0, 0)) (by (with_reducible repeat (first | refine blk_drewN ?_ _ | refine blk_drew ?_ | refine blk_alloc ?_ _)); exact BK128.out)) : gb129 ≠ gb128)); clear BK128; clear HB; have BK128 := n0_; have HB := n1_; have BK129 := n2_; have GW129 := n3_; have GE129 := n4_; have NB128_129 := n5_; have NB129_128 := n6_; clear n0_ n1_ n2_ n3_ n4_ n5_ n6_; clear hb hbox hg; have hnb25 := NB128_129.out; have hnc25 := NB129_128.out; have hcz26_0 : w24.cell? ⟨gb128, 0, none⟩ = some (.string a0_0) := (blk_cell BK128.out 0).trans rfl; have hcz26_1 : w24.cell? ⟨gb128, 1, none⟩ = some (.int .u64 a0_1) := (blk_cell BK128.out 1).trans rfl; have hcz26_2 : w24.cell? ⟨gb128, 2, none⟩ = some (.int .i64 a0_2) := (blk_cell BK128.out 2).trans rfl; have hfz26_0 := blk_frozen BK128.out 0; have hfz26_1 := blk_frozen BK128.out 1; have hfz26_2 := blk_frozen BK128.out 2; have hcz27_0 : w24.cell? ⟨gb129, 0, none⟩ = some (.string a1_0) := (blk_cell BK129.out 0).trans rfl; have hcz27_1 : w24.cell? ⟨gb129, 1, none⟩ = some (.int .u64 a1_1) := (blk_cell BK129.out 1).trans rfl; have hcz27_2 : w24.cell? ⟨gb129, 2, none⟩ = some (.int .i64 a1_2) := (blk_cell BK129.out 2).trans rfl; have hfz27_0 := blk_frozen BK129.out 0; have hfz27_1 := blk_frozen BK129.out 1; have hfz27_2 := blk_frozen BK129.out 2))
        go_ret
        exact ⟨by first | rfl | (simp [errW_none, errW_some] <;> rfl) | (simp [*, errW_none, errW_some] <;> rfl), by repeat (first | (with_reducible first | exact HB.out | apply below_alloc | apply pw_below_drewN | apply below_drew1 | refine below_set ?_ GE128.out | refine below_set ?_ GE129.out) | exact HB.out)⟩
      · rw [if_neg c22] at H
        have c22b0 : decide (a1_1 < a0_1) = false := decide_eq_false c22
        clear c22
        obtain rfl := Option.some.inj H
        go_enter Try.func78, Try.ntmps78
        go_wp2_with (first | ((with_reducible refine gate_dst (N := 2) rfl ?_); refine box_event ?hg (N := 2) ?hd (cs := #[.string a0_0, .int .u64 a0_1, .int .i64 a0_2]) (t := 37) ?hr ?_; (case hd => rfl); (case hg => rfl); (case hr => first | (go_simp; done) | (go_simp; rfl)); intro gb128 hg w28 hbox hb; have n0_ := Aside0.mk (below_step (by repeat (first | (with_reducible first | exact HB.out | apply below_alloc | apply pw_below_drewN | apply below_drew1) | exact HB.out)) hb); have n1_ := Aside0.mk (hbox); have n2_ := Aside0.mk ((by rw [hg]; exact (below_size (by repeat (first | (with_reducible first | exact HB.out | apply below_alloc | apply pw_below_drewN | apply below_drew1) | exact HB.out))) : w.heap.size ≤ gb128)); have n3_ := Aside0.mk ((by rw [hg]; exact (below_size (by repeat (first | (with_reducible first | exact HB.out | apply below_alloc | apply pw_below_drewN | apply below_drew1) | exact HB.out))) : w.heap.size ≤ gb128)); clear HB; have HB := n0_; have BK128 := n1_; have GW128 := n2_; have GE128 := n3_; clear n0_ n1_ n2_ n3_; clear hb hbox hg) | ((with_reducible refine gate_dst (N := 3) rfl ?_); refine box_event ?hg (N := 3) ?hd (cs := #[.string a1_0, .int .u64 a1_1, .int .i64 a1_2]) (t := 37) ?hr ?_; (case hd => rfl); (case hg => rfl); (case hr => first | (go_simp; done) | (go_simp; rfl)); intro gb129 hg w29 hbox hb; have n0_ := Aside0.mk (blk_below (g := gb128) (o := .cells #[.string a0_0, .int .u64 a0_1, .int .i64 a0_2] 37 (0, 0)) (by (with_reducible repeat (first | refine blk_drewN ?_ _ | refine blk_drew ?_ | refine blk_alloc ?_ _)); exact BK128.out) hb); have n1_ := Aside0.mk (below_step (by repeat (first | (with_reducible first | exact HB.out | apply below_alloc | apply pw_below_drewN | apply below_drew1 | refine below_set ?_ GE128.out) | exact HB.out)) hb); have n2_ := Aside0.mk (hbox); have n3_ := Aside0.mk ((by rw [hg]; exact (below_size (by repeat (first | (with_reducible first | exact HB.out | apply below_alloc | apply pw_below_drewN | apply below_drew1 | refine below_set ?_ GE128.out) | exact HB.out))) : w.heap.size ≤ gb129)); have n4_ := Aside0.mk ((by rw [hg]; exact (below_size (by repeat (first | (with_reducible first | exact HB.out | apply below_alloc | apply pw_below_drewN | apply below_drew1 | refine below_set ?_ GE128.out) | exact HB.out))) : w.heap.size ≤ gb129)); have n5_ := Aside0.mk ((by rw [hg]; exact Nat.ne_of_lt (blk_lt (g := gb128) (o := .cells #[.string a0_0, .int .u64 a0_1, .int .i64 a0_2] 37 (0, 0)) (by (with_reducible repeat (first | refine blk_drewN ?_ _ | refine blk_drew ?_ | refine blk_alloc ?_ _)); exact BK128.out)) : gb128 ≠ gb129)); have n6_ := Aside0.mk ((by rw [hg]; exact Nat.ne_of_gt (blk_lt (g := gb128) (o := .cells #[.string a0_0, .int .u64 a0_1, .int .i64 a0_2] 37 (0, 0)) (by (with_reducible repeat (first | refine blk_drewN ?_ _ | refine blk_drew ?_ | refine blk_alloc ?_ _)); exact BK128.out)) : gb129 ≠ gb128)); clear BK128; clear HB; have BK128 := n0_; have HB := n1_; have BK129 := n2_; have GW129 := n3_; have GE129 := n4_; have NB128_129 := n5_; have NB129_128 := n6_; clear n0_ n1_ n2_ n3_ n4_ n5_ n6_; clear hb hbox hg; have hnb30 := NB128_129.out; have hnc30 := NB129_128.out; have hcz31_0 : w29.cell? ⟨gb128, 0, none⟩ = some (.string a0_0) := (blk_cell BK128.out 0).trans rfl; have hcz31_1 : w29.cell? ⟨gb128, 1, none⟩ = some (.int .u64 a0_1) := (blk_cell BK128.out 1).trans rfl; have hcz31_2 : w29.cell? ⟨gb128, 2, none⟩ = some (.int .i64 a0_2) := (blk_cell BK128.out 2).trans rfl; have hfz31_0 := blk_frozen BK128.out 0; have hfz31_1 := blk_frozen BK128.out 1; have hfz31_2 := blk_frozen BK128.out 2; have hcz32_0 : w29.cell? ⟨gb129, 0, none⟩ = some (.string a1_0) := (blk_cell BK129.out 0).trans rfl; have hcz32_1 : w29.cell? ⟨gb129, 1, none⟩ = some (.int .u64 a1_1) := (blk_cell BK129.out 1).trans rfl; have hcz32_2 : w29.cell? ⟨gb129, 2, none⟩ = some (.int .i64 a1_2) := (blk_cell BK129.out 2).trans rfl; have hfz32_0 := blk_frozen BK129.out 0; have hfz32_1 := blk_frozen BK129.out 1; have hfz32_2 := blk_frozen BK129.out 2))
        go_ret
        exact ⟨by first | rfl | (simp [errW_none, errW_some] <;> rfl) | (simp [*, errW_none, errW_some] <;> rfl), by repeat (first | (with_reducible first | exact HB.out | apply below_alloc | apply pw_below_drewN | apply below_drew1 | refine below_set ?_ GE128.out | refine below_set ?_ GE129.out) | exact HB.out)⟩
  · rw [if_neg c3] at H
    have c3b0 : (a0_0.toList == a1_0.toList) = false := beq_eq_false_iff_ne.mpr c3
    have c3b1 : (a0_0.toList != a1_0.toList) = true := bne_iff_ne.mpr c3
    by_cases c33 : (Op.bytesLess a0_0.toList a1_0.toList) = true
    · rw [if_pos c33] at H
      have c33b0 : (Op.bytesLess a0_0.toList a1_0.toList) = true := c33
      clear c33
      obtain rfl := Option.some.inj H
      go_enter Try.func78, Try.ntmps78
      go_wp2_with (first | ((with_reducible refine gate_dst (N := 2) rfl ?_); refine box_event ?hg (N := 2) ?hd (cs := #[.string a0_0, .int .u64 a0_1, .int .i64 a0_2]) (t := 37) ?hr ?_; (case hd => rfl); (case hg => rfl); (case hr => first | (go_simp; done) | (go_simp; rfl)); intro gb128 hg w34 hbox hb; have n0_ := Aside0.mk (below_step (by repeat (first | (with_reducible first | exact HB.out | apply below_alloc | apply pw_below_drewN | apply below_drew1) | exact HB.out)) hb); have n1_ := Aside0.mk (hbox); have n2_ := Aside0.mk ((by rw [hg]; exact (below_size (by repeat (first | (with_reducible first | exact HB.out | apply below_alloc | apply pw_below_drewN | apply below_drew1) | exact HB.out))) : w.heap.size ≤ gb128)); have n3_ := Aside0.mk ((by rw [hg]; exact (below_size (by repeat (first | (with_reducible first | exact HB.out | apply below_alloc | apply pw_below_drewN | apply below_drew1) | exact HB.out))) : w.heap.size ≤ gb128)); clear HB; have HB := n0_; have BK128 := n1_; have GW128 := n2_; have GE128 := n3_; clear n0_ n1_ n2_ n3_; clear hb hbox hg) | ((with_reducible refine gate_dst (N := 3) rfl ?_); refine box_event ?hg (N := 3) ?hd (cs := #[.string a1_0, .int .u64 a1_1, .int .i64 a1_2]) (t := 37) ?hr ?_; (case hd => rfl); (case hg => rfl); (case hr => first | (go_simp; done) | (go_simp; rfl)); intro gb129 hg w35 hbox hb; have n0_ := Aside0.mk (blk_below (g := gb128) (o := .cells #[.string a0_0, .int .u64 a0_1, .int .i64 a0_2] 37 (0, 0)) (by (with_reducible repeat (first | refine blk_drewN ?_ _ | refine blk_drew ?_ | refine blk_alloc ?_ _)); exact BK128.out) hb); have n1_ := Aside0.mk (below_step (by repeat (first | (with_reducible first | exact HB.out | apply below_alloc | apply pw_below_drewN | apply below_drew1 | refine below_set ?_ GE128.out) | exact HB.out)) hb); have n2_ := Aside0.mk (hbox); have n3_ := Aside0.mk ((by rw [hg]; exact (below_size (by repeat (first | (with_reducible first | exact HB.out | apply below_alloc | apply pw_below_drewN | apply below_drew1 | refine below_set ?_ GE128.out) | exact HB.out))) : w.heap.size ≤ gb129)); have n4_ := Aside0.mk ((by rw [hg]; exact (below_size (by repeat (first | (with_reducible first | exact HB.out | apply below_alloc | apply pw_below_drewN | apply below_drew1 | refine below_set ?_ GE128.out) | exact HB.out))) : w.heap.size ≤ gb129)); have n5_ := Aside0.mk ((by rw [hg]; exact Nat.ne_of_lt (blk_lt (g := gb128) (o := .cells #[.string a0_0, .int .u64 a0_1, .int .i64 a0_2] 37 (0, 0)) (by (with_reducible repeat (first | refine blk_drewN ?_ _ | refine blk_drew ?_ | refine blk_alloc ?_ _)); exact BK128.out)) : gb128 ≠ gb129)); have n6_ := Aside0.mk ((by rw [hg]; exact Nat.ne_of_gt (blk_lt (g := gb128) (o := .cells #[.string a0_0, .int .u64 a0_1, .int .i64 a0_2] 37 (0, 0)) (by (with_reducible repeat (first | refine blk_drewN ?_ _ | refine blk_drew ?_ | refine blk_alloc ?_ _)); exact BK128.out)) : gb129 ≠ gb128)); clear BK128; clear HB; have BK128 := n0_; have HB := n1_; have BK129 := n2_; have GW129 := n3_; have GE129 := n4_; have NB128_129 := n5_; have NB129_128 := n6_; clear n0_ n1_ n2_ n3_ n4_ n5_ n6_; clear hb hbox hg; have hnb36 := NB128_129.out; have hnc36 := NB129_128.out; have hcz37_0 : w35.cell? ⟨gb128, 0, none⟩ = some (.string a0_0) := (blk_cell BK128.out 0).trans rfl; have hcz37_1 : w35.cell? ⟨gb128, 1, none⟩ = some (.int .u64 a0_1) := (blk_cell BK128.out 1).trans rfl; have hcz37_2 : w35.cell? ⟨gb128, 2, none⟩ = some (.int .i64 a0_2) := (blk_cell BK128.out 2).trans rfl; have hfz37_0 := blk_frozen BK128.out 0; have hfz37_1 := blk_frozen BK128.out 1; have hfz37_2 := blk_frozen BK128.out 2; have hcz38_0 : w35.cell? ⟨gb129, 0, none⟩ = some (.string a1_0) := (blk_cell BK129.out 0).trans rfl; have hcz38_1 : w35.cell? ⟨gb129, 1, none⟩ = some (.int .u64 a1_1) := (blk_cell BK129.out 1).trans rfl; have hcz38_2 : w35.cell? ⟨gb129, 2, none⟩ = some (.int .i64 a1_2) := (blk_cell BK129.out 2).trans rfl; have hfz38_0 := blk_frozen BK129.out 0; have hfz38_1 := blk_frozen BK129.out 1; have hfz38_2 := blk_frozen BK129.out 2))
      go_ret
      exact ⟨by first | rfl | (simp [errW_none, errW_some] <;> rfl) | (simp [*, errW_none, errW_some] <;> rfl), by repeat (first | (with_reducible first | exact HB.out | apply below_alloc | apply pw_below_drewN | apply below_drew1 | refine below_set ?_ GE128.out | refine below_set ?_ GE129.out) | exact HB.out)⟩
    · rw [if_neg c33] at H
      have c33b0 : (Op.bytesLess a0_0.toList a1_0.toList) = false := by simpa using c33
      clear c33
      obtain rfl := Option.some.inj H
      go_enter Try.func78, Try.ntmps78
      go_wp2_with (first | ((with_reducible refine gate_dst (N := 2) rfl ?_); refine box_event ?hg (N := 2) ?hd (cs := #[.string a0_0, .int .u64 a0_1, .int .i64 a0_2]) (t := 37) ?hr ?_; (case hd => rfl); (case hg => rfl); (case hr => first | (go_simp; done) | (go_simp; rfl)); intro gb128 hg w39 hbox hb; have n0_ := Aside0.mk (below_step (by repeat (first | (with_reducible first | exact HB.out | apply below_alloc | apply pw_below_drewN | apply below_drew1) | exact HB.out)) hb); have n1_ := Aside0.mk (hbox); have n2_ := Aside0.mk ((by rw [hg]; exact (below_size (by repeat (first | (with_reducible first | exact HB.out | apply below_alloc | apply pw_below_drewN | apply below_drew1) | exact HB.out))) : w.heap.size ≤ gb128)); have n3_ := Aside0.mk ((by rw [hg]; exact (below_size (by repeat (first | (with_reducible first | exact HB.out | apply below_alloc | apply pw_below_drewN | apply below_drew1) | exact HB.out))) : w.heap.size ≤ gb128)); clear HB; have HB := n0_; have BK128 := n1_; have GW128 := n2_; have GE128 := n3_; clear n0_ n1_ n2_ n3_; clear hb hbox hg) | ((with_reducible refine gate_dst (N := 3) rfl ?_); refine box_event ?hg (N := 3) ?hd (cs := #[.string a1_0, .int .u64 a1_1, .int .i64 a1_2]) (t := 37) ?hr ?_; (case hd => rfl); (case hg => rfl); (case hr => first | (go_simp; done) | (go_simp; rfl)); intro gb129 hg w40 hbox hb; have n0_ := Aside0.mk (blk_below (g := gb128) (o := .cells #[.string a0_0, .int .u64 a0_1, .int .i64 a0_2] 37 (0, 0)) (by (with_reducible repeat (first | refine blk_drewN ?_ _ | refine blk_drew ?_ | refine blk_alloc ?_ _)); exact BK128.out) hb); have n1_ := Aside0.mk (below_step (by repeat (first | (with_reducible first | exact HB.out | apply below_alloc | apply pw_below_drewN | apply below_drew1 | refine below_set ?_ GE128.out) | exact HB.out)) hb); have n2_ := Aside0.mk (hbox); have n3_ := Aside0.mk ((by rw [hg]; exact (below_size (by repeat (first | (with_reducible first | exact HB.out | apply below_alloc | apply pw_below_drewN | apply below_drew1 | refine below_set ?_ GE128.out) | exact HB.out))) : w.heap.size ≤ gb129)); have n4_ := Aside0.mk ((by rw [hg]; exact (below_size (by repeat (first | (with_reducible first | exact HB.out | apply below_alloc | apply pw_below_drewN | apply below_drew1 | refine below_set ?_ GE128.out) | exact HB.out))) : w.heap.size ≤ gb129)); have n5_ := Aside0.mk ((by rw [hg]; exact Nat.ne_of_lt (blk_lt (g := gb128) (o := .cells #[.string a0_0, .int .u64 a0_1, .int .i64 a0_2] 37 (0, 0)) (by (with_reducible repeat (first | refine blk_drewN ?_ _ | refine blk_drew ?_ | refine blk_alloc ?_ _)); exact BK128.out)) : gb128 ≠ gb129)); have n6_ := Aside0.mk ((by rw [hg]; exact Nat.ne_of_gt (blk_lt (g := gb128) (o := .cells #[.string a0_0, .int .u64 a0_1, .int .i64 a0_2] 37 (0, 0)) (by (with_reducible repeat (first | refine blk_drewN ?_ _ | refine blk_drew ?_ | refine blk_alloc ?_ _)); exact BK128.out)) : gb129 ≠ gb128)); clear BK128; clear HB; have BK128 := n0_; have HB := n1_; have BK129 := n2_; have GW129 := n3_; have GE129 := n4_; have NB128_129 := n5_; have NB129_128 := n6_; clear n0_ n1_ n2_ n3_ n4_ n5_ n6_; clear hb hbox hg; have hnb41 := NB128_129.out; have hnc41 := NB129_128.out; have hcz42_0 : w40.cell? ⟨gb128, 0, none⟩ = some (.string a0_0) := (blk_cell BK128.out 0).trans rfl; have hcz42_1 : w40.cell? ⟨gb128, 1, none⟩ = some (.int .u64 a0_1) := (blk_cell BK128.out 1).trans rfl; have hcz42_2 : w40.cell? ⟨gb128, 2, none⟩ = some (.int .i64 a0_2) := (blk_cell BK128.out 2).trans rfl; have hfz42_0 := blk_frozen BK128.out 0; have hfz42_1 := blk_frozen BK128.out 1; have hfz42_2 := blk_frozen BK128.out 2; have hcz43_0 : w40.cell? ⟨gb129, 0, none⟩ = some (.string a1_0) := (blk_cell BK129.out 0).trans rfl; have hcz43_1 : w40.cell? ⟨gb129, 1, none⟩ = some (.int .u64 a1_1) := (blk_cell BK129.out 1).trans rfl; have hcz43_2 : w40.cell? ⟨gb129, 2, none⟩ = some (.int .i64 a1_2) := (blk_cell BK129.out 2).trans rfl; have hfz43_0 := blk_frozen BK129.out 0; have hfz43_1 := blk_frozen BK129.out 1; have hfz43_2 := blk_frozen BK129.out 2))
      go_ret
      exact ⟨by first | rfl | (simp [errW_none, errW_some] <;> rfl) | (simp [*, errW_none, errW_some] <;> rfl), by repeat (first | (with_reducible first | exact HB.out | apply below_alloc | apply pw_below_drewN | apply below_drew1 | refine below_set ?_ GE128.out | refine below_set ?_ GE129.out) | exact HB.out)⟩

end Go.Proofs.Ytehfcafmdnfamaa.G

/- Printed by the session's program over the kit's print, out of the translation: functions as plain Lean functions, and the proofs that the calls come to them. -/
namespace Go.Proofs.Ytehfcafmdnfamaa.G
open Go.RowKit Go.Proofs.YtehfcafmdnfamaaW.PrintWords Go.Proofs.YtehfcafmdnfamaaW.PrintLast Go.Proofs.YtehfcafmdnfamaaW.PrintMore
attribute [local go_sem] max2_int min2_int max_two min_two max_three min_three max_four min_four   -- for this text's walks alone
set_option linter.unusedVariables false
set_option linter.unusedSimpArgs false

/-! ### ikey_isKind: function 76 -/
def ikey_isKind.f (a0 : Int) : Option (Bool) := if a0 = 0 then (some true) else (if a0 = 1 then (some true) else (if a0 = 2 then (some true) else (if a0 = 255 then (some true) else (some false))))
set_option maxHeartbeats 8000000 in
set_option maxRecDepth 100000 in
theorem ikey_isKind.calls (a0 : Int) (r : Bool) (w : World) (h : ikey_isKind.f a0 = some r) :
    Calls Try.prog 76 #[.int .i64 a0] w fun e w' => e = .returned (.bool r) ∧ Drawn0 w w' := by
  have H : (if a0 = 0 then (some true) else (if a0 = 1 then (some true) else (if a0 = 2 then (some true) else (if a0 = 255 then (some true) else (some false))))) = some r := h
  clear h
  by_cases c2 : a0 = 0
  · rw [if_pos c2] at H
    have c2b0 : (a0 == 0) = true := beq_iff_eq.mpr c2
    have c2b1 : (a0 != 0) = false := bne_eq_false_iff_eq.mpr c2
    clear c2
    obtain rfl := Option.some.inj H
    go_enter Try.func76, Try.ntmps76
    go_wp2
    go_ret
    exact ⟨by first | rfl | (simp; done) | (simp [*]; done), by repeat (first | exact Drawn0.refl _ | apply Drawn0.step)⟩
  · rw [if_neg c2] at H
    have c2b0 : (a0 == 0) = false := beq_eq_false_iff_ne.mpr c2
    have c2b1 : (a0 != 0) = true := bne_iff_ne.mpr c2
    by_cases c3 : a0 = 1
    · rw [if_pos c3] at H
      have c3b0 : (a0 == 1) = true := beq_iff_eq.mpr c3
      have c3b1 : (a0 != 1) = false := bne_eq_false_iff_eq.mpr c3
      clear c3
      obtain rfl := Option.some.inj H
      go_enter Try.func76, Try.ntmps76
      go_wp2
      go_ret
      exact ⟨by first | rfl | (simp; done) | (simp [*]; done), by repeat (first | exact Drawn0.refl _ | apply Drawn0.step)⟩
    · rw [if_neg c3] at H
      have c3b0 : (a0 == 1) = false := beq_eq_false_iff_ne.mpr c3
      have c3b1 : (a0 != 1) = true := bne_iff_ne.mpr c3
      by_cases c4 : a0 = 2
      · rw [if_pos c4] at H
        have c4b0 : (a0 == 2) = true := beq_iff_eq.mpr c4
        have c4b1 : (a0 != 2) = false := bne_eq_false_iff_eq.mpr c4
        clear c4
        obtain rfl := Option.some.inj H
        go_enter Try.func76, Try.ntmps76
        go_wp2
        go_ret
        exact ⟨by first | rfl | (simp; done) | (simp [*]; done), by repeat (first | exact Drawn0.refl _ | apply Drawn0.step)⟩
      · rw [if_neg c4] at H
        have c4b0 : (a0 == 2) = false := beq_eq_false_iff_ne.mpr c4
        have c4b1 : (a0 != 2) = true := bne_iff_ne.mpr c4
        by_cases c5 : a0 = 255
        · rw [if_pos c5] at H
          have c5b0 : (a0 == 255) = true := beq_iff_eq.mpr c5
          have c5b1 : (a0 != 255) = false := bne_eq_false_iff_eq.mpr c5
          clear c5
          obtain rfl := Option.some.inj H
          go_enter Try.func76, Try.ntmps76
          go_wp2
          go_ret
          exact ⟨by first | rfl | (simp; done) | (simp [*]; done), by repeat (first | exact Drawn0.refl _ | apply Drawn0.step)⟩
        · rw [if_neg c5] at H
          have c5b0 : (a0 == 255) = false := beq_eq_false_iff_ne.mpr c5
          have c5b1 : (a0 != 255) = true := bne_iff_ne.mpr c5
          obtain rfl := Option.some.inj H
          go_enter Try.func76, Try.ntmps76
          go_wp2
          go_ret
          exact ⟨by first | rfl | (simp; done) | (simp [*]; done), by repeat (first | exact Drawn0.refl _ | apply Drawn0.step)⟩

end Go.Proofs.Ytehfcafmdnfamaa.G

/- Printed by the session's program over the kit's print, out of the translation: functions as plain Lean functions, and the proofs that the calls come to them. -/
namespace Go.Proofs.Ytehfcafmdnfamaa.G
open Go.RowKit Go.Proofs.YtehfcafmdnfamaaW.PrintWords Go.Proofs.YtehfcafmdnfamaaW.PrintLast Go.Proofs.YtehfcafmdnfamaaW.PrintMore
attribute [local go_sem] max2_int min2_int max_two min_two max_three min_three max_four min_four   -- for this text's walks alone
set_option linter.unusedVariables false
set_option linter.unusedSimpArgs false

/-! ### ikey_Valid: function 40 -/
def ikey_Valid.f (a0_0 : ByteArray) (a0_1 : Int) (a0_2 : Int) : Option (Bool) := if a0_0.toList = ([] : List UInt8) then (some false) else (if (a0_0.size : Int) ≤ 1024 then (if a0_1 ≤ 72057594037927935 then ((ikey_isKind.f a0_2).bind fun t116 => (some t116)) else (some false)) else (some false))
set_option maxHeartbeats 8000000 in
set_option maxRecDepth 100000 in
theorem ikey_Valid.calls (a0_0 : ByteArray) (a0_1 : Int) (a0_2 : Int) (r : Bool) (w : World) (h : ikey_Valid.f a0_0 a0_1 a0_2 = some r) :
    Calls Try.prog 40 #[.agg #[.string a0_0, .int .u64 a0_1, .int .i64 a0_2]] w fun e w' => e = .returned (.bool r) ∧ Below w.heap.size w w' := by
  have hu37 := Try.underlying37
  have HB := Aside0.mk (Below.refl w.heap.size w)
  have H : (if a0_0.toList = ([] : List UInt8) then (some false) else (if (a0_0.size : Int) ≤ 1024 then (if a0_1 ≤ 72057594037927935 then ((ikey_isKind.f a0_2).bind fun t116 => (some t116)) else (some false)) else (some false))) = some r := h
  clear h
  by_cases c2 : a0_0.toList = ([] : List UInt8)
  · rw [if_pos c2] at H
    have c2b0 : (a0_0.toList == ([] : List UInt8)) = true := beq_iff_eq.mpr c2
    have c2b1 : (a0_0.toList != ([] : List UInt8)) = false := bne_eq_false_iff_eq.mpr c2
    clear c2
    obtain rfl := Option.some.inj H
    go_enter Try.func40, Try.ntmps40
    go_wp2_with (first | ((with_reducible refine gate_dst (N := 1) rfl ?_); (try (refine gate_guard (by rfl) ?_; dsimp only)); refine box_event ?hg (N := 1) ?hd (cs := #[.string a0_0, .int .u64 a0_1, .int .i64 a0_2]) (t := 37) ?hr ?_; (case hd => rfl); (case hg => rfl); (case hr => first | (go_simp; done) | (go_simp; rfl)); intro gb115 hg w3 hbox hb; have n0_ := Aside0.mk (below_step (by repeat (first | (with_reducible first | exact HB.out | apply below_alloc | apply pw_below_drewN | apply below_drew1) | exact HB.out)) hb); have n1_ := Aside0.mk (hbox); have n2_ := Aside0.mk ((by rw [hg]; exact (below_size (by repeat (first | (with_reducible first | exact HB.out | apply below_alloc | apply pw_below_drewN | apply below_drew1) | exact HB.out))) : w.heap.size ≤ gb115)); have n3_ := Aside0.mk ((by rw [hg]; exact (below_size (by repeat (first | (with_reducible first | exact HB.out | apply below_alloc | apply pw_below_drewN | apply below_drew1) | exact HB.out))) : w.heap.size ≤ gb115)); clear HB; have HB := n0_; have BK115 := n1_; have GW115 := n2_; have GE115 := n3_; clear n0_ n1_ n2_ n3_; clear hb hbox hg; have hcz4_0 : w3.cell? ⟨gb115, 0, none⟩ = some (.string a0_0) := (blk_cell BK115.out 0).trans rfl; have hcz4_1 : w3.cell? ⟨gb115, 1, none⟩ = some (.int .u64 a0_1) := (blk_cell BK115.out 1).trans rfl; have hcz4_2 : w3.cell? ⟨gb115, 2, none⟩ = some (.int .i64 a0_2) := (blk_cell BK115.out 2).trans rfl; have hfz4_0 := blk_frozen BK115.out 0; have hfz4_1 := blk_frozen BK115.out 1; have hfz4_2 := blk_frozen BK115.out 2))
    go_ret
    exact ⟨by first | rfl | (simp [errW_none, errW_some] <;> rfl) | (simp [*, errW_none, errW_some] <;> rfl), by repeat (first | (with_reducible first | exact HB.out | apply below_alloc | apply pw_below_drewN | apply below_drew1 | refine below_set ?_ GE115.out) | exact HB.out)⟩
  · rw [if_neg c2] at H
    have c2b0 : (a0_0.toList == ([] : List UInt8)) = false := beq_eq_false_iff_ne.mpr c2
    have c2b1 : (a0_0.toList != ([] : List UInt8)) = true := bne_iff_ne.mpr c2
    by_cases c5 : (a0_0.size : Int) ≤ 1024
    · rw [if_pos c5] at H
      have c5b0 : decide ((a0_0.size : Int) ≤ 1024) = true := decide_eq_true c5
      have c5b1 : decide (a0_0.size ≤ 1024) = true := decide_eq_true (by omega)
      clear c5
      by_cases c6 : a0_1 ≤ 72057594037927935
      · rw [if_pos c6] at H
        have c6b0 : decide (a0_1 ≤ 72057594037927935) = true := decide_eq_true c6
        clear c6
        replace H := Option.bind_eq_some_iff.mp H
        obtain ⟨t116, A70, H⟩ := H
        replace H : (some t116) = some r := H
        have A7 := Aside0.mk A70
        clear A70
        obtain rfl := Option.some.inj H
        go_enter Try.func40, Try.ntmps40
        go_wp2_with (first | ((with_reducible refine gate_dst (N := 1) rfl ?_); (try (refine gate_guard (by rfl) ?_; dsimp only)); refine box_event ?hg (N := 1) ?hd (cs := #[.string a0_0, .int .u64 a0_1, .int .i64 a0_2]) (t := 37) ?hr ?_; (case hd => rfl); (case hg => rfl); (case hr => first | (go_simp; done) | (go_simp; rfl)); intro gb115 hg w8 hbox hb; have n0_ := Aside0.mk (below_step (by repeat (first | (with_reducible first | exact HB.out | apply below_alloc | apply pw_below_drewN | apply below_drew1) | exact HB.out)) hb); have n1_ := Aside0.mk (hbox); have n2_ := Aside0.mk ((by rw [hg]; exact (below_size (by repeat (first | (with_reducible first | exact HB.out | apply below_alloc | apply pw_below_drewN | apply below_drew1) | exact HB.out))) : w.heap.size ≤ gb115)); have n3_ := Aside0.mk ((by rw [hg]; exact (below_size (by repeat (first | (with_reducible first | exact HB.out | apply below_alloc | apply pw_below_drewN | apply below_drew1) | exact HB.out))) : w.heap.size ≤ gb115)); clear HB; have HB := n0_; have BK115 := n1_; have GW115 := n2_; have GE115 := n3_; clear n0_ n1_ n2_ n3_; clear hb hbox hg; have hcz9_0 : w8.cell? ⟨gb115, 0, none⟩ = some (.string a0_0) := (blk_cell BK115.out 0).trans rfl; have hcz9_1 : w8.cell? ⟨gb115, 1, none⟩ = some (.int .u64 a0_1) := (blk_cell BK115.out 1).trans rfl; have hcz9_2 : w8.cell? ⟨gb115, 2, none⟩ = some (.int .i64 a0_2) := (blk_cell BK115.out 2).trans rfl; have hfz9_0 := blk_frozen BK115.out 0; have hfz9_1 := blk_frozen BK115.out 1; have hfz9_2 := blk_frozen BK115.out 2) | (go_at_call 76; (with_reducible refine (ikey_isKind.calls a0_2 t116 _ A7.out).mono ?_); rintro e w' ⟨rfl, ⟨nd, rfl⟩⟩))
        go_ret
        exact ⟨by first | rfl | (simp [errW_none, errW_some] <;> rfl) | (simp [*, errW_none, errW_some] <;> rfl), by repeat (first | (with_reducible first | exact HB.out | apply below_alloc | apply pw_below_drewN | apply below_drew1 | refine below_set ?_ GE115.out) | exact HB.out)⟩
      · rw [if_neg c6] at H
        have c6b0 : decide (a0_1 ≤ 72057594037927935) = false := decide_eq_false c6
        clear c6
        obtain rfl := Option.some.inj H
        go_enter Try.func40, Try.ntmps40
        go_wp2_with (first | ((with_reducible refine gate_dst (N := 1) rfl ?_); (try (refine gate_guard (by rfl) ?_; dsimp only)); refine box_event ?hg (N := 1) ?hd (cs := #[.string a0_0, .int .u64 a0_1, .int .i64 a0_2]) (t := 37) ?hr ?_; (case hd => rfl); (case hg => rfl); (case hr => first | (go_simp; done) | (go_simp; rfl)); intro gb115 hg w10 hbox hb; have n0_ := Aside0.mk (below_step (by repeat (first | (with_reducible first | exact HB.out | apply below_alloc | apply pw_below_drewN | apply below_drew1) | exact HB.out)) hb); have n1_ := Aside0.mk (hbox); have n2_ := Aside0.mk ((by rw [hg]; exact (below_size (by repeat (first | (with_reducible first | exact HB.out | apply below_alloc | apply pw_below_drewN | apply below_drew1) | exact HB.out))) : w.heap.size ≤ gb115)); have n3_ := Aside0.mk ((by rw [hg]; exact (below_size (by repeat (first | (with_reducible first | exact HB.out | apply below_alloc | apply pw_below_drewN | apply below_drew1) | exact HB.out))) : w.heap.size ≤ gb115)); clear HB; have HB := n0_; have BK115 := n1_; have GW115 := n2_; have GE115 := n3_; clear n0_ n1_ n2_ n3_; clear hb hbox hg; have hcz11_0 : w10.cell? ⟨gb115, 0, none⟩ = some (.string a0_0) := (blk_cell BK115.out 0).trans rfl; have hcz11_1 : w10.cell? ⟨gb115, 1, none⟩ = some (.int .u64 a0_1) := (blk_cell BK115.out 1).trans rfl; have hcz11_2 : w10.cell? ⟨gb115, 2, none⟩ = some (.int .i64 a0_2) := (blk_cell BK115.out 2).trans rfl; have hfz11_0 := blk_frozen BK115.out 0; have hfz11_1 := blk_frozen BK115.out 1; have hfz11_2 := blk_frozen BK115.out 2))
        go_ret
        exact ⟨by first | rfl | (simp [errW_none, errW_some] <;> rfl) | (simp [*, errW_none, errW_some] <;> rfl), by repeat (first | (with_reducible first | exact HB.out | apply below_alloc | apply pw_below_drewN | apply below_drew1 | refine below_set ?_ GE115.out) | exact HB.out)⟩
    · rw [if_neg c5] at H
      have c5b0 : decide ((a0_0.size : Int) ≤ 1024) = false := decide_eq_false c5
      have c5b1 : decide (a0_0.size ≤ 1024) = false := decide_eq_false (by omega)
      clear c5
      obtain rfl := Option.some.inj H
      go_enter Try.func40, Try.ntmps40
      go_wp2_with (first | ((with_reducible refine gate_dst (N := 1) rfl ?_); (try (refine gate_guard (by rfl) ?_; dsimp only)); refine box_event ?hg (N := 1) ?hd (cs := #[.string a0_0, .int .u64 a0_1, .int .i64 a0_2]) (t := 37) ?hr ?_; (case hd => rfl); (case hg => rfl); (case hr => first | (go_simp; done) | (go_simp; rfl)); intro gb115 hg w12 hbox hb; have n0_ := Aside0.mk (below_step (by repeat (first | (with_reducible first | exact HB.out | apply below_alloc | apply pw_below_drewN | apply below_drew1) | exact HB.out)) hb); have n1_ := Aside0.mk (hbox); have n2_ := Aside0.mk ((by rw [hg]; exact (below_size (by repeat (first | (with_reducible first | exact HB.out | apply below_alloc | apply pw_below_drewN | apply below_drew1) | exact HB.out))) : w.heap.size ≤ gb115)); have n3_ := Aside0.mk ((by rw [hg]; exact (below_size (by repeat (first | (with_reducible first | exact HB.out | apply below_alloc | apply pw_below_drewN | apply below_drew1) | exact HB.out))) : w.heap.size ≤ gb115)); clear HB; have HB := n0_; have BK115 := n1_; have GW115 := n2_; have GE115 := n3_; clear n0_ n1_ n2_ n3_; clear hb hbox hg; have hcz13_0 : w12.cell? ⟨gb115, 0, none⟩ = some (.string a0_0) := (blk_cell BK115.out 0).trans rfl; have hcz13_1 : w12.cell? ⟨gb115, 1, none⟩ = some (.int .u64 a0_1) := (blk_cell BK115.out 1).trans rfl; have hcz13_2 : w12.cell? ⟨gb115, 2, none⟩ = some (.int .i64 a0_2) := (blk_cell BK115.out 2).trans rfl; have hfz13_0 := blk_frozen BK115.out 0; have hfz13_1 := blk_frozen BK115.out 1; have hfz13_2 := blk_frozen BK115.out 2))
      go_ret
      exact ⟨by first | rfl | (simp [errW_none, errW_some] <;> rfl) | (simp [*, errW_none, errW_some] <;> rfl), by repeat (first | (with_reducible first | exact HB.out | apply below_alloc | apply pw_below_drewN | apply below_drew1 | refine below_set ?_ GE115.out) | exact HB.out)⟩

end Go.Proofs.Ytehfcafmdnfamaa.G

/- Printed by the session's program over the kit's print, out of the translation: functions as plain Lean functions, and the proofs that the calls come to them. -/
namespace Go.Proofs.Ytehfcafmdnfamaa.G
open Go.RowKit Go.Proofs.YtehfcafmdnfamaaW.PrintWords Go.Proofs.YtehfcafmdnfamaaW.PrintLast Go.Proofs.YtehfcafmdnfamaaW.PrintMore
attribute [local go_sem] max2_int min2_int max_two min_two max_three min_three max_four min_four   -- for this text's walks alone
set_option linter.unusedVariables false
set_option linter.unusedSimpArgs false

/-! ### moraineref03_kind: function 77 -/
def moraineref03_kind.f (a0 : Int) : Option (Bool) := if a0 = 0 then (some true) else (if a0 = 1 then (some true) else (if a0 = 2 then (some true) else (some (a0 == 255))))
set_option maxHeartbeats 8000000 in
set_option maxRecDepth 100000 in
theorem moraineref03_kind.calls (a0 : Int) (r : Bool) (w : World) (h : moraineref03_kind.f a0 = some r) :
    Calls Try.prog 77 #[.int .i64 a0] w fun e w' => e = .returned (.bool r) ∧ Drawn0 w w' := by
  have H : (if a0 = 0 then (some true) else (if a0 = 1 then (some true) else (if a0 = 2 then (some true) else (some (a0 == 255))))) = some r := h
  clear h
  by_cases c2 : a0 = 0
  · rw [if_pos c2] at H
    have c2b0 : (a0 == 0) = true := beq_iff_eq.mpr c2
    have c2b1 : (a0 != 0) = false := bne_eq_false_iff_eq.mpr c2
    clear c2
    obtain rfl := Option.some.inj H
    go_enter Try.func77, Try.ntmps77
    go_wp2
    go_ret
    exact ⟨by first | rfl | (simp; done) | (simp [*]; done), by repeat (first | exact Drawn0.refl _ | apply Drawn0.step)⟩
  · rw [if_neg c2] at H
    have c2b0 : (a0 == 0) = false := beq_eq_false_iff_ne.mpr c2
    have c2b1 : (a0 != 0) = true := bne_iff_ne.mpr c2
    by_cases c3 : a0 = 1
    · rw [if_pos c3] at H
      have c3b0 : (a0 == 1) = true := beq_iff_eq.mpr c3
      have c3b1 : (a0 != 1) = false := bne_eq_false_iff_eq.mpr c3
      clear c3
      obtain rfl := Option.some.inj H
      go_enter Try.func77, Try.ntmps77
      go_wp2
      go_ret
      exact ⟨by first | rfl | (simp; done) | (simp [*]; done), by repeat (first | exact Drawn0.refl _ | apply Drawn0.step)⟩
    · rw [if_neg c3] at H
      have c3b0 : (a0 == 1) = false := beq_eq_false_iff_ne.mpr c3
      have c3b1 : (a0 != 1) = true := bne_iff_ne.mpr c3
      by_cases c4 : a0 = 2
      · rw [if_pos c4] at H
        have c4b0 : (a0 == 2) = true := beq_iff_eq.mpr c4
        have c4b1 : (a0 != 2) = false := bne_eq_false_iff_eq.mpr c4
        clear c4
        obtain rfl := Option.some.inj H
        go_enter Try.func77, Try.ntmps77
        go_wp2
        go_ret
        exact ⟨by first | rfl | (simp; done) | (simp [*]; done), by repeat (first | exact Drawn0.refl _ | apply Drawn0.step)⟩
      · rw [if_neg c4] at H
        have c4b0 : (a0 == 2) = false := beq_eq_false_iff_ne.mpr c4
        have c4b1 : (a0 != 2) = true := bne_iff_ne.mpr c4
        obtain rfl := Option.some.inj H
        go_enter Try.func77, Try.ntmps77
        go_wp2
        go_ret
        exact ⟨by first | rfl | (simp; done) | (simp [*]; done), by repeat (first | exact Drawn0.refl _ | apply Drawn0.step)⟩

end Go.Proofs.Ytehfcafmdnfamaa.G

/- Printed by the session's program over the kit's print, out of the translation: functions as plain Lean functions, and the proofs that the calls come to them. -/
namespace Go.Proofs.Ytehfcafmdnfamaa.G
open Go.RowKit Go.Proofs.YtehfcafmdnfamaaW.PrintWords Go.Proofs.YtehfcafmdnfamaaW.PrintLast Go.Proofs.YtehfcafmdnfamaaW.PrintMore
attribute [local go_sem] max2_int min2_int max_two min_two max_three min_three max_four min_four   -- for this text's walks alone
set_option linter.unusedVariables false
set_option linter.unusedSimpArgs false

/-! ### moraineref03_Valid: function 42 -/
def moraineref03_Valid.f (a0_0 : ByteArray) (a0_1 : Int) (a0_2 : Int) : Option (Bool) := if (a0_0.size : Int) ≥ 1 then (if (a0_0.size : Int) ≤ 1024 then (if a0_1 ≤ 72057594037927935 then ((moraineref03_kind.f a0_2).bind fun t127 => (some t127)) else (some false)) else (some false)) else (some false)
set_option maxHeartbeats 8000000 in
set_option maxRecDepth 100000 in
theorem moraineref03_Valid.calls (a0_0 : ByteArray) (a0_1 : Int) (a0_2 : Int) (r : Bool) (w : World) (h : moraineref03_Valid.f a0_0 a0_1 a0_2 = some r) :
    Calls Try.prog 42 #[.agg #[.string a0_0, .int .u64 a0_1, .int .i64 a0_2]] w fun e w' => e = .returned (.bool r) ∧ Below w.heap.size w w' := by
  have hu37 := Try.underlying37
  have HB := Aside0.mk (Below.refl w.heap.size w)
  have H : (if (a0_0.size : Int) ≥ 1 then (if (a0_0.size : Int) ≤ 1024 then (if a0_1 ≤ 72057594037927935 then ((moraineref03_kind.f a0_2).bind fun t127 => (some t127)) else (some false)) else (some false)) else (some false)) = some r := h
  clear h
  by_cases c2 : (a0_0.size : Int) ≥ 1
  · rw [if_pos c2] at H
    have c2b0 : decide (1 ≤ (a0_0.size : Int)) = true := decide_eq_true c2
    have c2b1 : decide (1 ≤ a0_0.size) = true := decide_eq_true (by omega)
    clear c2
    by_cases c3 : (a0_0.size : Int) ≤ 1024
    · rw [if_pos c3] at H
      have c3b0 : decide ((a0_0.size : Int) ≤ 1024) = true := decide_eq_true c3
      have c3b1 : decide (a0_0.size ≤ 1024) = true := decide_eq_true (by omega)
      clear c3
      by_cases c4 : a0_1 ≤ 72057594037927935
      · rw [if_pos c4] at H
        have c4b0 : decide (a0_1 ≤ 72057594037927935) = true := decide_eq_true c4
        clear c4
        replace H := Option.bind_eq_some_iff.mp H
        obtain ⟨t127, A50, H⟩ := H
        replace H : (some t127) = some r := H
        have A5 := Aside0.mk A50
        clear A50
        obtain rfl := Option.some.inj H
        go_enter Try.func42, Try.ntmps42
        go_wp2_with (first | ((with_reducible refine gate_dst (N := 1) rfl ?_); (try (refine gate_guard (by rfl) ?_; dsimp only)); refine box_event ?hg (N := 1) ?hd (cs := #[.string a0_0, .int .u64 a0_1, .int .i64 a0_2]) (t := 37) ?hr ?_; (case hd => rfl); (case hg => rfl); (case hr => first | (go_simp; done) | (go_simp; rfl)); intro gb126 hg w6 hbox hb; have n0_ := Aside0.mk (below_step (by repeat (first | (with_reducible first | exact HB.out | apply below_alloc | apply pw_below_drewN | apply below_drew1) | exact HB.out)) hb); have n1_ := Aside0.mk (hbox); have n2_ := Aside0.mk ((by rw [hg]; exact (below_size (by repeat (first | (with_reducible first | exact HB.out | apply below_alloc | apply pw_below_drewN | apply below_drew1) | exact HB.out))) : w.heap.size ≤ gb126)); have n3_ := Aside0.mk ((by rw [hg]; exact (below_size (by repeat (first | (with_reducible first | exact HB.out | apply below_alloc | apply pw_below_drewN | apply below_drew1) | exact HB.out))) : w.heap.size ≤ gb126)); clear HB; have HB := n0_; have BK126 := n1_; have GW126 := n2_; have GE126 := n3_; clear n0_ n1_ n2_ n3_; clear hb hbox hg; have hcz7_0 : w6.cell? ⟨gb126, 0, none⟩ = some (.string a0_0) := (blk_cell BK126.out 0).trans rfl; have hcz7_1 : w6.cell? ⟨gb126, 1, none⟩ = some (.int .u64 a0_1) := (blk_cell BK126.out 1).trans rfl; have hcz7_2 : w6.cell? ⟨gb126, 2, none⟩ = some (.int .i64 a0_2) := (blk_cell BK126.out 2).trans rfl; have hfz7_0 := blk_frozen BK126.out 0; have hfz7_1 := blk_frozen BK126.out 1; have hfz7_2 := blk_frozen BK126.out 2) | (go_at_call 77; (with_reducible refine (moraineref03_kind.calls a0_2 t127 _ A5.out).mono ?_); rintro e w' ⟨rfl, ⟨nd, rfl⟩⟩))
        go_ret
        exact ⟨by first | rfl | (simp [errW_none, errW_some] <;> rfl) | (simp [*, errW_none, errW_some] <;> rfl), by repeat (first | (with_reducible first | exact HB.out | apply below_alloc | apply pw_below_drewN | apply below_drew1 | refine below_set ?_ GE126.out) | exact HB.out)⟩
      · rw [if_neg c4] at H
        have c4b0 : decide (a0_1 ≤ 72057594037927935) = false := decide_eq_false c4
        clear c4
        obtain rfl := Option.some.inj H
        go_enter Try.func42, Try.ntmps42
        go_wp2_with (first | ((with_reducible refine gate_dst (N := 1) rfl ?_); (try (refine gate_guard (by rfl) ?_; dsimp only)); refine box_event ?hg (N := 1) ?hd (cs := #[.string a0_0, .int .u64 a0_1, .int .i64 a0_2]) (t := 37) ?hr ?_; (case hd => rfl); (case hg => rfl); (case hr => first | (go_simp; done) | (go_simp; rfl)); intro gb126 hg w8 hbox hb; have n0_ := Aside0.mk (below_step (by repeat (first | (with_reducible first | exact HB.out | apply below_alloc | apply pw_below_drewN | apply below_drew1) | exact HB.out)) hb); have n1_ := Aside0.mk (hbox); have n2_ := Aside0.mk ((by rw [hg]; exact (below_size (by repeat (first | (with_reducible first | exact HB.out | apply below_alloc | apply pw_below_drewN | apply below_drew1) | exact HB.out))) : w.heap.size ≤ gb126)); have n3_ := Aside0.mk ((by rw [hg]; exact (below_size (by repeat (first | (with_reducible first | exact HB.out | apply below_alloc | apply pw_below_drewN | apply below_drew1) | exact HB.out))) : w.heap.size ≤ gb126)); clear HB; have HB := n0_; have BK126 := n1_; have GW126 := n2_; have GE126 := n3_; clear n0_ n1_ n2_ n3_; clear hb hbox hg; have hcz9_0 : w8.cell? ⟨gb126, 0, none⟩ = some (.string a0_0) := (blk_cell BK126.out 0).trans rfl; have hcz9_1 : w8.cell? ⟨gb126, 1, none⟩ = some (.int .u64 a0_1) := (blk_cell BK126.out 1).trans rfl; have hcz9_2 : w8.cell? ⟨gb126, 2, none⟩ = some (.int .i64 a0_2) := (blk_cell BK126.out 2).trans rfl; have hfz9_0 := blk_frozen BK126.out 0; have hfz9_1 := blk_frozen BK126.out 1; have hfz9_2 := blk_frozen BK126.out 2))
        go_ret
        exact ⟨by first | rfl | (simp [errW_none, errW_some] <;> rfl) | (simp [*, errW_none, errW_some] <;> rfl), by repeat (first | (with_reducible first | exact HB.out | apply below_alloc | apply pw_below_drewN | apply below_drew1 | refine below_set ?_ GE126.out) | exact HB.out)⟩
    · rw [if_neg c3] at H
      have c3b0 : decide ((a0_0.size : Int) ≤ 1024) = false := decide_eq_false c3
      have c3b1 : decide (a0_0.size ≤ 1024) = false := decide_eq_false (by omega)
      clear c3
      obtain rfl := Option.some.inj H
      go_enter Try.func42, Try.ntmps42
      go_wp2_with (first | ((with_reducible refine gate_dst (N := 1) rfl ?_); (try (refine gate_guard (by rfl) ?_; dsimp only)); refine box_event ?hg (N := 1) ?hd (cs := #[.string a0_0, .int .u64 a0_1, .int .i64 a0_2]) (t := 37) ?hr ?_; (case hd => rfl); (case hg => rfl); (case hr => first | (go_simp; done) | (go_simp; rfl)); intro gb126 hg w10 hbox hb; have n0_ := Aside0.mk (below_step (by repeat (first | (with_reducible first | exact HB.out | apply below_alloc | apply pw_below_drewN | apply below_drew1) | exact HB.out)) hb); have n1_ := Aside0.mk (hbox); have n2_ := Aside0.mk ((by rw [hg]; exact (below_size (by repeat (first | (with_reducible first | exact HB.out | apply below_alloc | apply pw_below_drewN | apply below_drew1) | exact HB.out))) : w.heap.size ≤ gb126)); have n3_ := Aside0.mk ((by rw [hg]; exact (below_size (by repeat (first | (with_reducible first | exact HB.out | apply below_alloc | apply pw_below_drewN | apply below_drew1) | exact HB.out))) : w.heap.size ≤ gb126)); clear HB; have HB := n0_; have BK126 := n1_; have GW126 := n2_; have GE126 := n3_; clear n0_ n1_ n2_ n3_; clear hb hbox hg; have hcz11_0 : w10.cell? ⟨gb126, 0, none⟩ = some (.string a0_0) := (blk_cell BK126.out 0).trans rfl; have hcz11_1 : w10.cell? ⟨gb126, 1, none⟩ = some (.int .u64 a0_1) := (blk_cell BK126.out 1).trans rfl; have hcz11_2 : w10.cell? ⟨gb126, 2, none⟩ = some (.int .i64 a0_2) := (blk_cell BK126.out 2).trans rfl; have hfz11_0 := blk_frozen BK126.out 0; have hfz11_1 := blk_frozen BK126.out 1; have hfz11_2 := blk_frozen BK126.out 2))
      go_ret
      exact ⟨by first | rfl | (simp [errW_none, errW_some] <;> rfl) | (simp [*, errW_none, errW_some] <;> rfl), by repeat (first | (with_reducible first | exact HB.out | apply below_alloc | apply pw_below_drewN | apply below_drew1 | refine below_set ?_ GE126.out) | exact HB.out)⟩
  · rw [if_neg c2] at H
    have c2b0 : decide (1 ≤ (a0_0.size : Int)) = false := decide_eq_false c2
    have c2b1 : decide (1 ≤ a0_0.size) = false := decide_eq_false (by omega)
    clear c2
    obtain rfl := Option.some.inj H
    go_enter Try.func42, Try.ntmps42
    go_wp2_with (first | ((with_reducible refine gate_dst (N := 1) rfl ?_); (try (refine gate_guard (by rfl) ?_; dsimp only)); refine box_event ?hg (N := 1) ?hd (cs := #[.string a0_0, .int .u64 a0_1, .int .i64 a0_2]) (t := 37) ?hr ?_; (case hd => rfl); (case hg => rfl); (case hr => first | (go_simp; done) | (go_simp; rfl)); intro gb126 hg w12 hbox hb; have n0_ := Aside0.mk (below_step (by repeat (first | (with_reducible first | exact HB.out | apply below_alloc | apply pw_below_drewN | apply below_drew1) | exact HB.out)) hb); have n1_ := Aside0.mk (hbox); have n2_ := Aside0.mk ((by rw [hg]; exact (below_size (by repeat (first | (with_reducible first | exact HB.out | apply below_alloc | apply pw_below_drewN | apply below_drew1) | exact HB.out))) : w.heap.size ≤ gb126)); have n3_ := Aside0.mk ((by rw [hg]; exact (below_size (by repeat (first | (with_reducible first | exact HB.out | apply below_alloc | apply pw_below_drewN | apply below_drew1) | exact HB.out))) : w.heap.size ≤ gb126)); clear HB; have HB := n0_; have BK126 := n1_; have GW126 := n2_; have GE126 := n3_; clear n0_ n1_ n2_ n3_; clear hb hbox hg; have hcz13_0 : w12.cell? ⟨gb126, 0, none⟩ = some (.string a0_0) := (blk_cell BK126.out 0).trans rfl; have hcz13_1 : w12.cell? ⟨gb126, 1, none⟩ = some (.int .u64 a0_1) := (blk_cell BK126.out 1).trans rfl; have hcz13_2 : w12.cell? ⟨gb126, 2, none⟩ = some (.int .i64 a0_2) := (blk_cell BK126.out 2).trans rfl; have hfz13_0 := blk_frozen BK126.out 0; have hfz13_1 := blk_frozen BK126.out 1; have hfz13_2 := blk_frozen BK126.out 2))
    go_ret
    exact ⟨by first | rfl | (simp [errW_none, errW_some] <;> rfl) | (simp [*, errW_none, errW_some] <;> rfl), by repeat (first | (with_reducible first | exact HB.out | apply below_alloc | apply pw_below_drewN | apply below_drew1 | refine below_set ?_ GE126.out) | exact HB.out)⟩

end Go.Proofs.Ytehfcafmdnfamaa.G

/- Contracts typed by hand: the order of internal keys: what Compare comes to -/
namespace Go.Proofs.Ytehfcafmdnfamaa.G
open Go.RowKit Go.Proofs.YtehfcafmdnfamaaW.PrintWords Go.Proofs.YtehfcafmdnfamaaW.PrintLast Go.Proofs.YtehfcafmdnfamaaW.PrintMore
attribute [local go_sem] max2_int min2_int max_two min_two max_three min_three max_four min_four
set_option linter.unusedVariables false
set_option linter.unusedSimpArgs false

/-! the order of internal keys: what Compare comes to -/
theorem or_int (k : Nat) (x y z : Int) : cmp_Or_int.f (k + 4) [x, y, z] = some (or3 x y z) := by
  have w1 : wrap64 (0 + 1) = 1 := by unfold wrap64; omega
  have w2 : wrap64 (1 + 1) = 2 := by unfold wrap64; omega
  have w3 : wrap64 (2 + 1) = 3 := by unfold wrap64; omega
  have hl : ((([x, y, z] : List Int).length : Nat) : Int) = 3 := rfl
  have r0 : rd [x, y, z] 0 = x := rfl
  have r1 : rd [x, y, z] 1 = y := rfl
  have r2 : rd [x, y, z] 2 = z := rfl
  unfold cmp_Or_int.f or3
  rw [hl, cmp_Or_int.l0, hl, if_pos (by omega), if_pos (by omega), if_pos (by omega), r0]
  by_cases hx : x = 0
  · rw [if_pos hx, if_pos hx, w1, cmp_Or_int.l0, hl, if_pos (by omega), if_pos (by omega), if_pos (by omega), r1]
    by_cases hy : y = 0
    · rw [if_pos hy, if_pos hy, w2, cmp_Or_int.l0, hl, if_pos (by omega), if_pos (by omega), if_pos (by omega), r2]
      by_cases hz : z = 0
      · rw [if_pos hz, w3, cmp_Or_int.l0, if_neg (by omega), hz]
      · rw [if_neg hz]
    · rw [if_neg hy, if_neg hy]
  · rw [if_neg hx, if_neg hx]
theorem cmp_u64 (x y : Int) : cmp_Compare_uint64.f x y = some (ic x y) := by
  unfold cmp_Compare_uint64.f cmp_isNaN_uint64.f ic
  simp only [bne_self_eq_false, Option.bind_some, Bool.false_eq_true, if_false, gt_iff_lt]
  split
  · rfl
  · split <;> rfl
theorem cmp_i64 (x y : Int) : cmp_Compare_int.f x y = some (ic x y) := by
  unfold cmp_Compare_int.f cmp_isNaN_int.f ic
  simp only [bne_self_eq_false, Option.bind_some, Bool.false_eq_true, if_false, gt_iff_lt]
  split
  · rfl
  · split <;> rfl
theorem compare_eq (k : Nat) (a : ByteArray) (s t : Int) (b : ByteArray) (u v : Int) : ikey_Compare.f (k + 4) a s t b u v = some (kc a.toList s t b.toList u v) := by
  unfold ikey_Compare.f strings_Compare.f
  rw [Option.bind_some, cmp_u64, Option.bind_some, cmp_i64, Option.bind_some, or_int, Option.bind_some]
  unfold kc cb
  rw [Lib.toList_data, Lib.toList_data]
theorem ic_ref (t v : Int) : (if t = v then some 0 else (if t > v then some (-1) else some 1)) = some (ic v t) := by
  by_cases h : t = v
  · rw [if_pos h, (ic_iff v t).2 h.symm]
  · rw [if_neg h]
    unfold ic
    by_cases h2 : t > v
    · rw [if_pos h2, if_pos h2]
    · rw [if_neg h2, if_neg h2, if_pos (by omega)]
theorem kc_ref (a b : List UInt8) (s t u v : Int) : (if a = b then (if s = u then (if t = v then some 0 else (if t > v then some (-1) else some 1)) else (if s > u then some (-1) else some 1)) else (if Op.bytesLess a b = true then some (-1) else some 1)) = some (kc a s t b u v) := by
  unfold kc or3
  by_cases h : a = b
  · subst h
    rw [if_pos rfl, cb_self, if_pos rfl, ic_ref]
    by_cases h2 : s = u
    · subst h2
      rw [if_pos rfl, (ic_iff s s).2 rfl, if_pos rfl]
    · rw [if_neg h2, if_neg (fun e => h2 ((ic_iff u s).1 e).symm)]
      have := ic_ref s u
      rw [if_neg h2] at this
      exact this
  · have h0 : ¬ cb a b = 0 := fun e => h (cb_eq _ _ e)
    rw [if_neg h, if_neg h0, less_cb]
    rcases cb_rng a b with e | e | e
    · rw [e]; rfl
    · exact absurd e h0
    · rw [e]; rfl
theorem refcompare_eq (a : ByteArray) (s t : Int) (b : ByteArray) (u v : Int) : moraineref03_Compare.f a s t b u v = some (kc a.toList s t b.toList u v) := by
  unfold moraineref03_Compare.f
  exact kc_ref _ _ _ _ _ _
theorem isKind_eq (a : Int) : ikey_isKind.f a = moraineref03_kind.f a := by
  unfold ikey_isKind.f moraineref03_kind.f
  split
  · rfl
  · split
    · rfl
    · split
      · rfl
      · split
        · rename_i h; rw [h]; rfl
        · rename_i h; rw [beq_eq_false_iff_ne.2 h]
theorem toList_nil (s : ByteArray) : s.toList = [] ↔ ¬ (s.size : Int) ≥ 1 := by
  rw [Lib.toList_data, ← List.length_eq_zero_iff, data_length]
  omega
theorem valid_eq (a : ByteArray) (s t : Int) : ikey_Valid.f a s t = moraineref03_Valid.f a s t := by
  unfold ikey_Valid.f moraineref03_Valid.f
  by_cases h : a.toList = []
  · rw [if_pos h, if_neg ((toList_nil a).1 h)]
  · rw [if_neg h, if_pos (show (a.size : Int) ≥ 1 from Decidable.of_not_not (mt (toList_nil a).2 h)), isKind_eq]
def validOf (a : ByteArray) (s t : Int) : Bool := decide (1 ≤ a.size ∧ a.size ≤ 1024 ∧ s ≤ 72057594037927935 ∧ (t = 0 ∨ t = 1 ∨ t = 2 ∨ t = 255))
end Go.Proofs.Ytehfcafmdnfamaa.G
