/- Contracts typed by hand: the journal's pieces: what a record adds, what it costs; the program's and the reference's functions come to them -/
import Derived.Test.YtmpkigambfghgaaDoorProg
import Derived.Below
import Derived.Deep.Draws
import Derived.Deep.AppendLies
import Derived.Maps.AppendAt
import Derived.OwnWalk
import Derived.Laws.BytesArg
import Derived.Laws.MakeOwn
import Derived.Laws.OwnMore
import Derived.Deep.OwnRows
import Derived.Tactics
import Derived.Lib.ConvBytes
import Derived.Laws.Slices
import Derived.WalkKit
import Derived.KernelRfl
import Derived.RowKit3
import Derived.Deep.LoopGhost
import Derived.Deep.QuietTactic
import Derived.BigQuiet
import Derived.WideLaws
import Derived.Deep.DeepCutAuto
import Derived.Deep.CutBlock
import Derived.Deep.RegionHeld3
import Derived.Laws.Rows
import Derived.Lib.AppendStr
import Derived.ArgAppend
import Derived.Laws.IdiomCopy
import Derived.OrdersHeld
import Derived.Laws.BitsLemmas
import Derived.RowKit
import Derived.Test.YtmpkigambfghgaaDoorWWords
import Derived.Test.YtmpkigambfghgaaDoorWLast
import Derived.Test.YtmpkigambfghgaaDoorWTab
import Derived.Test.YtmpkigambfghgaaDoorWFour
import Derived.Test.YtmpkigambfghgaaDoorWQPut
import Derived.Test.YtmpkigambfghgaaDoorWApart
import Derived.Test.YtmpkigambfghgaaDoorWArr
import Derived.Test.YtmpkigambfghgaaDoorWZeros
import Derived.Test.YtmpkigambfghgaaDoorWFoot
import Derived.Test.YtmpkigambfghgaaDoorWKept
import Derived.Test.YtmpkigambfghgaaDoorWShare
import Derived.Test.YtmpkigambfghgaaDoorWN
import Derived.Test.YtmpkigambfghgaaDoorWFootNe
import Derived.Test.YtmpkigambfghgaaDoorWAt
import Derived.Test.YtmpkigambfghgaaDoorWEqStruct
import Derived.Test.YtmpkigambfghgaaDoorWRepsOne
import Derived.Test.YtmpkigambfghgaaDoorWInv
import Derived.Test.YtmpkigambfghgaaDoorWInvWords
import Derived.Test.YtmpkigambfghgaaDoorWGuard
import Derived.Test.YtmpkigambfghgaaDoorWNEv
import Derived.Test.YtmpkigambfghgaaDoorWMore
import Derived.Test.YtmpkigambfghgaaDoorPureSum07
import Derived.Test.YtmpkigambfghgaaDoorGx3
import Derived.Test.YtmpkigambfghgaaDoorGx25
import Derived.Test.YtmpkigambfghgaaDoorGx24
namespace Go.Proofs.YtmpkigambfghgaaDoor.G
open Go.RowKit Go.Proofs.YtmpkigambfghgaaDoorW.PrintWords Go.Proofs.YtmpkigambfghgaaDoorW.PrintLast Go.Proofs.YtmpkigambfghgaaDoorW.PrintMore
attribute [local go_sem] max2_int min2_int max_two min_two max_three min_three max_four min_four
set_option linter.unusedVariables false
set_option linter.unusedSimpArgs false

/-! the journal's pieces: what a record adds, what it costs; the program's and the reference's functions come to them -/
def fourJ (x : Nat) : List Int := [((x % 256 : Nat) : Int), ((x / 256 % 256 : Nat) : Int), ((x / 65536 % 256 : Nat) : Int), ((x / 16777216 % 256 : Nat) : Int)]
def twoJ (n : Nat) : List Int := [((n % 256 : Nat) : Int), ((n / 256 % 256 : Nat) : Int)]
def kindJ (first last : Bool) : Nat := if first then (if last then 1 else 2) else (if last then 4 else 3)
def padJ (blk p : Nat) : Nat := if blk - p < 7 then blk - p else 0
def mostJ (blk p : Nat) : Nat := if blk - p < 7 then blk - 7 else blk - p - 7
def pieceJ (kind : Nat) (d : List Int) : List Int := fourJ (sumN kind d) ++ twoJ d.length ++ [(kind : Int)] ++ d
def addJ (blk : Nat) : Nat → Nat → Bool → List Int → List Int
  | 0, _, _, _ => []
  | k + 1, p, first, r =>
    if r.length ≤ mostJ blk p then List.replicate (padJ blk p) 0 ++ pieceJ (kindJ first true) r
    else List.replicate (padJ blk p) 0 ++ pieceJ (kindJ first false) (r.take (mostJ blk p)) ++ addJ blk k 0 false (r.drop (mostJ blk p))
def costJ (blk : Nat) : Nat → Nat → Nat → Nat
  | 0, _, _ => 0
  | k + 1, p, n => if n ≤ mostJ blk p then padJ blk p + 7 + n else padJ blk p + 7 + mostJ blk p + costJ blk k 0 (n - mostJ blk p)
theorem piece_len (kind : Nat) (d : List Int) : (pieceJ kind d).length = 7 + d.length := by simp [pieceJ, fourJ, twoJ]; omega
theorem add_len (blk : Nat) : ∀ (k p : Nat) (first : Bool) (r : List Int), (addJ blk k p first r).length = costJ blk k p r.length
  | 0, _, _, _ => rfl
  | k + 1, p, first, r => by
    unfold addJ costJ
    split
    · rw [List.length_append, List.length_replicate, piece_len]; omega
    · rw [List.length_append, List.length_append, List.length_replicate, piece_len, add_len blk k, List.length_take, List.length_drop]; omega
theorem most0 {blk : Nat} (h : 32 ≤ blk) : 25 ≤ mostJ blk 0 := by unfold mostJ; split <;> omega
theorem pad_most {blk : Nat} (h : 32 ≤ blk) (p : Nat) : padJ blk p ≤ 6 ∧ (padJ blk p = 0 ∨ 25 ≤ mostJ blk p) ∧ mostJ blk p ≤ blk := by unfold padJ mostJ; split <;> omega
theorem cost_le (blk : Nat) (h : 32 ≤ blk) : ∀ (k p n : Nat), costJ blk k p n ≤ (if p = 0 then 7 else 14) + 2 * n + 7
  | 0, _, _ => by unfold costJ; omega
  | k + 1, p, n => by
    unfold costJ
    have hp := pad_most h p
    have hp0 : p = 0 → padJ blk p = 0 := by unfold padJ; split <;> omega
    have hm0 : p = 0 → 25 ≤ mostJ blk p := fun e => e ▸ most0 h
    split
    · split <;> omega
    · have ih := cost_le blk h k 0 (n - mostJ blk p)
      rw [if_pos rfl] at ih
      split <;> omega
/-- enough rounds -/
def Enough (blk k p n : Nat) : Prop := n + (if p = 0 then 1 else 2) ≤ k
theorem Enough.next {blk k p n : Nat} (h : 32 ≤ blk) (he : Enough blk (k + 1) p n) (hn : ¬ n ≤ mostJ blk p) : Enough blk k 0 (n - mostJ blk p) := by
  unfold Enough at *
  rw [if_pos rfl]
  by_cases hp : p = 0
  · subst hp
    rw [if_pos rfl] at he
    have := most0 h
    omega
  · rw [if_neg hp] at he; omega
theorem add_more (blk : Nat) (h : 32 ≤ blk) : ∀ (k p : Nat) (first : Bool) (r : List Int) (j : Nat), Enough blk k p r.length → k ≤ j → addJ blk j p first r = addJ blk k p first r
  | 0, p, _, r, _, hk, _ => by unfold Enough at hk; split at hk <;> omega
  | k + 1, p, first, r, 0, _, hj => by omega
  | k + 1, p, first, r, j + 1, hk, hj => by
    unfold addJ
    split
    · rfl
    · rename_i hn
      rw [add_more blk h k 0 false (r.drop (mostJ blk p)) j (by rw [List.length_drop]; exact hk.next h hn) (by omega)]
theorem cost_more (blk : Nat) (h : 32 ≤ blk) : ∀ (k p n j : Nat), Enough blk k p n → k ≤ j → costJ blk j p n = costJ blk k p n
  | 0, p, n, _, hk, _ => by unfold Enough at hk; split at hk <;> omega
  | k + 1, p, n, 0, _, hj => by omega
  | k + 1, p, n, j + 1, hk, hj => by
    unfold costJ
    split
    · rfl
    · rename_i hn
      rw [cost_more blk h k 0 (n - mostJ blk p) j (hk.next h hn) (by omega)]
/-- what a record adds behind so many bytes; what it costs -/
def addR (blk p : Nat) (r : List Int) : List Int := addJ blk (r.length + 2) p true r
def costR (blk p n : Nat) : Nat := costJ blk (n + 2) p n
theorem addR_len (blk p : Nat) (r : List Int) : (addR blk p r).length = costR blk p r.length := add_len _ _ _ _ _
theorem enough_self (blk p n : Nat) : Enough blk (n + 2) p n := by unfold Enough; split <;> omega
theorem costR_le (blk : Nat) (h : 32 ≤ blk) (p n : Nat) : costR blk p n ≤ 2 * n + 21 := by
  have := cost_le blk h (n + 2) p n
  unfold costR
  split at this <;> omega
theorem fourJ_byt (x : Nat) : Byt (fourJ x) := fun y hy => by
  simp only [fourJ, List.mem_cons, List.not_mem_nil, or_false] at hy
  rcases hy with rfl | rfl | rfl | rfl <;> omega
theorem twoJ_byt (x : Nat) : Byt (twoJ x) := fun y hy => by
  simp only [twoJ, List.mem_cons, List.not_mem_nil, or_false] at hy
  rcases hy with rfl | rfl <;> omega
theorem kindJ_range (a b : Bool) : 1 ≤ kindJ a b ∧ kindJ a b ≤ 4 := by cases a <;> cases b <;> decide
theorem piece_byt {kind : Nat} (hk : kind < 256) {d : List Int} (hd : Byt d) : Byt (pieceJ kind d) :=
  (((fourJ_byt _).append (twoJ_byt _)).append (Byt.cons (by omega) (by omega) Byt.nil)).append hd
theorem zeros_byt (n : Nat) : Byt (List.replicate n 0) := fun x hx => by obtain ⟨_, rfl⟩ := List.mem_replicate.1 hx; omega
theorem Byt.drop {l : List Int} (h : Byt l) (n : Nat) : Byt (l.drop n) := fun x hx => h x (List.mem_of_mem_drop hx)
theorem add_byt (blk : Nat) : ∀ (k p : Nat) (first : Bool) (r : List Int), Byt r → Byt (addJ blk k p first r)
  | 0, _, _, _, _ => Byt.nil
  | k + 1, p, first, r, h => by
    unfold addJ
    have h1 := kindJ_range first true
    have h2 := kindJ_range first false
    split
    · exact (zeros_byt _).append (piece_byt (by omega) h)
    · exact ((zeros_byt _).append (piece_byt (by omega) (h.take _))).append (add_byt blk k 0 false _ (h.drop _))
theorem mn_nat (a b : Nat) : mn (a : Int) (b : Int) = ((min a b : Nat) : Int) := by unfold mn; omega
theorem kindOf_eq (k : Nat) (a b : Bool) (hk : 1 ≤ k) : journal_kindOf.f k a b = some ((kindJ a b : Nat) : Int) := by
  obtain ⟨k, rfl⟩ : ∃ m, k = m + 1 := ⟨k - 1, by omega⟩
  unfold journal_kindOf.f kindJ
  cases a <;> cases b <;> simp [journal_kindOf.j0]
theorem seven_eq (s n kind : Nat) : ([((s : Int)) % 256, ((s : Int) / 256) % 256, ((s : Int) / 65536) % 256, ((s : Int) / 16777216) % 256, (n : Int) % 256, ((n : Int) / 256) % 256, (kind : Int)] : List Int) = fourJ s ++ twoJ n ++ [(kind : Int)] := by
  simp [fourJ, twoJ]
theorem mod_next (blk p : Nat) (hp : p < blk) (h1 : 32 ≤ blk) : (p + padJ blk p + 7 + mostJ blk p) % blk = 0 := by
  have e : p + padJ blk p + 7 + mostJ blk p = blk ∨ p + padJ blk p + 7 + mostJ blk p = blk + blk := by unfold padJ mostJ; split <;> omega
  rcases e with e | e <;> rw [e]
  · rw [Nat.mod_self]
  · rw [Nat.add_mod_left, Nat.mod_self]

end Go.Proofs.YtmpkigambfghgaaDoor.G
