/- Contracts typed by hand: the order of keys in plain Lean -/
import Derived.Test.YtdoolmomkffdaaaProg
import Derived.Below
import Derived.Deep.Draws
import Derived.Deep.AppendLies
import Derived.Maps.AppendAt
import Derived.OwnWalk
import Derived.Laws.BytesArg
import Derived.Laws.MakeOwn
import Derived.Laws.OwnMore
import Derived.Deep.OwnRows
import Derived.Tactics
import Derived.Lib.ConvBytes
import Derived.Laws.Slices
import Derived.WalkKit
import Derived.KernelRfl
import Derived.RowKit3
import Derived.Deep.LoopGhost
import Derived.Deep.QuietTactic
import Derived.BigQuiet
import Derived.WideLaws
import Derived.Deep.DeepCutAuto
import Derived.Deep.CutBlock
import Derived.Deep.RegionHeld3
import Derived.Laws.Rows
import Derived.Lib.AppendStr
import Derived.ArgAppend
import Derived.Laws.IdiomCopy
import Derived.OrdersHeld
import Derived.Laws.BitsLemmas
import Derived.RowKit
import Derived.Test.YtdoolmomkffdaaaWWords
import Derived.Test.YtdoolmomkffdaaaWLast
import Derived.Test.YtdoolmomkffdaaaWTab
import Derived.Test.YtdoolmomkffdaaaWFour
import Derived.Test.YtdoolmomkffdaaaWQPut
import Derived.Test.YtdoolmomkffdaaaWApart
import Derived.Test.YtdoolmomkffdaaaWArr
import Derived.Test.YtdoolmomkffdaaaWZeros
import Derived.Test.YtdoolmomkffdaaaWFoot
import Derived.Test.YtdoolmomkffdaaaWKept
import Derived.Test.YtdoolmomkffdaaaWShare
import Derived.Test.YtdoolmomkffdaaaWN
import Derived.Test.YtdoolmomkffdaaaWFootNe
import Derived.Test.YtdoolmomkffdaaaWAt
import Derived.Test.YtdoolmomkffdaaaWEqStruct
import Derived.Test.YtdoolmomkffdaaaWRepsOne
import Derived.Test.YtdoolmomkffdaaaWInv
import Derived.Test.YtdoolmomkffdaaaWInvWords
import Derived.Test.YtdoolmomkffdaaaWGuard
import Derived.Test.YtdoolmomkffdaaaWNEv
import Derived.Test.YtdoolmomkffdaaaWMore
import Derived.Lib.Bytealg
namespace Go.Proofs.Ytdoolmomkffdaaa.G
open Go.RowKit Go.Proofs.YtdoolmomkffdaaaW.PrintWords Go.Proofs.YtdoolmomkffdaaaW.PrintLast Go.Proofs.YtdoolmomkffdaaaW.PrintMore
attribute [local go_sem] max2_int min2_int max_two min_two max_three min_three max_four min_four
set_option linter.unusedVariables false
set_option linter.unusedSimpArgs false

/-! the order of keys in plain Lean -/
def cb (a b : List UInt8) : Int := Lib.compareBytes a b
def ic (a b : Int) : Int := if a < b then -1 else if b < a then 1 else 0
theorem cb_rng : ∀ a b, cb a b = -1 ∨ cb a b = 0 ∨ cb a b = 1
  | [], [] => Or.inr (Or.inl rfl)
  | [], _ :: _ => Or.inl rfl
  | _ :: _, [] => Or.inr (Or.inr rfl)
  | x :: a, y :: b => by
    unfold cb Lib.compareBytes
    by_cases h : x < y
    · rw [if_pos h]; exact Or.inl rfl
    · rw [if_neg h]
      by_cases h2 : y < x
      · rw [if_pos h2]; exact Or.inr (Or.inr rfl)
      · rw [if_neg h2]; exact cb_rng a b
theorem cb_cons (x y : UInt8) (a b : List UInt8) : cb (x :: a) (y :: b) = if x < y then -1 else if y < x then 1 else cb a b := by
  unfold cb; rw [Lib.compareBytes]
theorem cb_self : ∀ a, cb a a = 0
  | [] => rfl
  | x :: a => by rw [cb_cons, if_neg (UInt8.lt_irrefl x), if_neg (UInt8.lt_irrefl x), cb_self a]
theorem cb_eq : ∀ a b, cb a b = 0 → a = b
  | [], [], _ => rfl
  | [], _ :: _, h => by simp [cb, Lib.compareBytes] at h
  | _ :: _, [], h => by simp [cb, Lib.compareBytes] at h
  | x :: a, y :: b, h => by
    rw [cb_cons] at h
    by_cases h1 : x < y
    · rw [if_pos h1] at h; omega
    · rw [if_neg h1] at h
      by_cases h2 : y < x
      · rw [if_pos h2] at h; omega
      · rw [if_neg h2] at h
        rw [cb_eq a b h, UInt8.le_antisymm (UInt8.not_lt.1 h2) (UInt8.not_lt.1 h1)]
theorem cb_iff (a b : List UInt8) : cb a b = 0 ↔ a = b := ⟨cb_eq a b, fun h => by rw [h, cb_self]⟩
theorem cb_anti : ∀ a b, cb b a = - cb a b
  | [], [] => rfl
  | [], _ :: _ => rfl
  | _ :: _, [] => rfl
  | x :: a, y :: b => by
    rw [cb_cons, cb_cons]
    by_cases h1 : x < y
    · rw [if_pos h1, if_neg (fun h => UInt8.lt_irrefl x (UInt8.lt_trans h1 h)), if_pos h1]; rfl
    · rw [if_neg h1]
      by_cases h2 : y < x
      · rw [if_pos h2, if_neg h1, if_pos h2]
      · simp only [if_neg h1, if_neg h2]; exact cb_anti a b
theorem cb_trans : ∀ a b c, cb a b < 0 → cb b c < 0 → cb a c < 0
  | [], [], _, h, _ => by simp [cb, Lib.compareBytes] at h
  | [], _ :: _, [], _, h => by simp [cb, Lib.compareBytes] at h
  | [], _ :: _, _ :: _, _, _ => by simp [cb, Lib.compareBytes]
  | _ :: _, [], _, h, _ => by simp [cb, Lib.compareBytes] at h
  | _ :: _, _ :: _, [], _, h => by simp [cb, Lib.compareBytes] at h
  | x :: a, y :: b, z :: c, h, k => by
    rw [cb_cons] at h k ⊢
    by_cases h1 : x < y
    · by_cases k1 : y < z
      · rw [if_pos (UInt8.lt_trans h1 k1)]; omega
      · rw [if_neg k1] at k
        by_cases k2 : z < y
        · rw [if_pos k2] at k; omega
        · have : y = z := UInt8.le_antisymm (UInt8.not_lt.1 k2) (UInt8.not_lt.1 k1)
          subst this
          rw [if_pos h1]; omega
    · rw [if_neg h1] at h
      by_cases h2 : y < x
      · rw [if_pos h2] at h; omega
      · rw [if_neg h2] at h
        have : x = y := UInt8.le_antisymm (UInt8.not_lt.1 h2) (UInt8.not_lt.1 h1)
        subst this
        by_cases k1 : x < z
        · rw [if_pos k1]; omega
        · rw [if_neg k1] at k ⊢
          by_cases k2 : z < x
          · rw [if_pos k2] at k; omega
          · rw [if_neg k2] at k ⊢
            exact cb_trans a b c h k
theorem less_cb : ∀ a b, Op.bytesLess a b = decide (cb a b < 0)
  | [], [] => rfl
  | [], _ :: _ => by simp [Op.bytesLess, cb, Lib.compareBytes]
  | _ :: _, [] => by simp [Op.bytesLess, cb, Lib.compareBytes]
  | x :: a, y :: b => by
    rw [cb_cons, Op.bytesLess, less_cb a b]
    by_cases h1 : x < y
    · rw [if_pos h1]; simp [h1]
    · rw [if_neg h1]
      by_cases h2 : y < x
      · rw [if_pos h2]
        have : x ≠ y := fun e => h1 (by subst e; exact absurd h2 (UInt8.lt_irrefl x))
        simp [h1, this]
      · rw [if_neg h2]
        have : x = y := UInt8.le_antisymm (UInt8.not_lt.1 h2) (UInt8.not_lt.1 h1)
        subst this
        simp [UInt8.lt_irrefl]
theorem ic_rng (a b : Int) : ic a b = -1 ∨ ic a b = 0 ∨ ic a b = 1 := by unfold ic; split <;> (try split) <;> omega
theorem ic_iff (a b : Int) : ic a b = 0 ↔ a = b := by unfold ic; split <;> (try split) <;> omega
theorem ic_anti (a b : Int) : ic b a = - ic a b := by unfold ic; split <;> (try split) <;> omega
theorem ic_neg (a b : Int) : ic a b < 0 ↔ a < b := by unfold ic; split <;> (try split) <;> omega
theorem ic_trans (a b c : Int) (h : ic a b < 0) (k : ic b c < 0) : ic a c < 0 := by rw [ic_neg] at *; omega
/-- the first that is not nought -/
def or3 (x y z : Int) : Int := if x = 0 then (if y = 0 then z else y) else x
/-- the order of internal keys -/
def kc (a : List UInt8) (s k : Int) (b : List UInt8) (t l : Int) : Int := or3 (cb a b) (ic t s) (ic l k)
theorem kc_rng (a s k b t l) : kc a s k b t l = -1 ∨ kc a s k b t l = 0 ∨ kc a s k b t l = 1 := by
  have h1 := cb_rng a b; have h2 := ic_rng t s; have h3 := ic_rng l k
  unfold kc or3; split <;> (try split) <;> assumption
theorem kc_iff (a s k b t l) : kc a s k b t l = 0 ↔ a = b ∧ s = t ∧ k = l := by
  have h1 := cb_iff a b; have h2 := ic_iff t s; have h3 := ic_iff l k
  unfold kc or3
  by_cases e1 : cb a b = 0
  · rw [if_pos e1]
    by_cases e2 : ic t s = 0
    · rw [if_pos e2, h3]
      exact ⟨fun e => ⟨h1.1 e1, (h2.1 e2).symm, e.symm⟩, fun e => e.2.2.symm⟩
    · rw [if_neg e2]
      exact ⟨fun e => absurd e e2, fun e => absurd (h2.2 e.2.1.symm) e2⟩
  · rw [if_neg e1]
    exact ⟨fun e => absurd e e1, fun e => absurd (h1.2 e.1) e1⟩
theorem kc_self (a s k) : kc a s k a s k = 0 := (kc_iff ..).2 ⟨rfl, rfl, rfl⟩
theorem kc_anti (a s k b t l) : kc b t l a s k = - kc a s k b t l := by
  have h1 := cb_anti a b; have h2 := ic_anti t s; have h3 := ic_anti l k
  unfold kc or3
  rw [h1, h2, h3]
  split <;> (try split) <;> (try split) <;> (try split) <;> omega
theorem kc_trans {a s k b t l c u m} (h : kc a s k b t l < 0) (g : kc b t l c u m < 0) : kc a s k c u m < 0 := by
  unfold kc or3 at *
  by_cases e1 : cb a b = 0
  · rw [if_pos e1] at h
    obtain rfl := cb_eq _ _ e1
    by_cases e2 : cb a c = 0
    · rw [if_pos e2] at g ⊢
      by_cases f1 : ic t s = 0
      · obtain rfl := (ic_iff _ _).1 f1
        rw [if_pos f1] at h
        by_cases f2 : ic u t = 0
        · rw [if_pos f2] at g ⊢
          exact ic_trans _ _ _ g h
        · rw [if_neg f2] at g ⊢; exact g
      · rw [if_neg f1] at h
        by_cases f2 : ic u t = 0
        · obtain rfl := (ic_iff _ _).1 f2
          rw [if_neg f1]; exact h
        · rw [if_neg f2] at g
          have := ic_trans _ _ _ g h
          rw [if_neg (by omega)]; exact this
    · rw [if_neg e2] at g ⊢; exact g
  · rw [if_neg e1] at h
    by_cases e2 : cb b c = 0
    · obtain rfl := cb_eq _ _ e2
      rw [if_neg e1]; exact h
    · rw [if_neg e2] at g
      have := cb_trans _ _ _ h g
      rw [if_neg (by omega)]; exact this
theorem kc_le_trans {a s k b t l c u m} (h : kc a s k b t l ≤ 0) (g : kc b t l c u m ≤ 0) : kc a s k c u m ≤ 0 ∧ (kc a s k c u m = 0 ↔ kc a s k b t l = 0 ∧ kc b t l c u m = 0) := by
  rcases Int.lt_or_eq_of_le h with h1 | h1
  · rcases Int.lt_or_eq_of_le g with g1 | g1
    · have := kc_trans h1 g1
      exact ⟨by omega, by omega⟩
    · obtain ⟨rfl, rfl, rfl⟩ := (kc_iff ..).1 g1
      exact ⟨h, by omega⟩
  · obtain ⟨rfl, rfl, rfl⟩ := (kc_iff ..).1 h1
    exact ⟨g, by omega⟩

end Go.Proofs.Ytdoolmomkffdaaa.G
