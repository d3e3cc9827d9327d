/- Contracts typed by hand: plain laws of operations: which may be, how many bytes they have; what Check and Size answer -/
import Derived.Test.YthkooncibfkepaaProg
import Derived.Below
import Derived.Deep.Draws
import Derived.Deep.AppendLies
import Derived.Maps.AppendAt
import Derived.OwnWalk
import Derived.Laws.BytesArg
import Derived.Laws.MakeOwn
import Derived.Laws.OwnMore
import Derived.Deep.OwnRows
import Derived.Tactics
import Derived.Lib.ConvBytes
import Derived.Laws.Slices
import Derived.WalkKit
import Derived.KernelRfl
import Derived.RowKit3
import Derived.Deep.LoopGhost
import Derived.Deep.QuietTactic
import Derived.BigQuiet
import Derived.WideLaws
import Derived.Deep.DeepCutAuto
import Derived.Deep.CutBlock
import Derived.Deep.RegionHeld3
import Derived.Laws.Rows
import Derived.Lib.AppendStr
import Derived.ArgAppend
import Derived.Laws.IdiomCopy
import Derived.OrdersHeld
import Derived.Laws.BitsLemmas
import Derived.RowKit
import Derived.Test.YthkooncibfkepaaWWords
import Derived.Test.YthkooncibfkepaaWLast
import Derived.Test.YthkooncibfkepaaWTab
import Derived.Test.YthkooncibfkepaaWFour
import Derived.Test.YthkooncibfkepaaWQPut
import Derived.Test.YthkooncibfkepaaWApart
import Derived.Test.YthkooncibfkepaaWArr
import Derived.Test.YthkooncibfkepaaWZeros
import Derived.Test.YthkooncibfkepaaWFoot
import Derived.Test.YthkooncibfkepaaWKept
import Derived.Test.YthkooncibfkepaaWShare
import Derived.Test.YthkooncibfkepaaWN
import Derived.Test.YthkooncibfkepaaWFootNe
import Derived.Test.YthkooncibfkepaaWAt
import Derived.Test.YthkooncibfkepaaWEqStruct
import Derived.Test.YthkooncibfkepaaWRepsOne
import Derived.Test.YthkooncibfkepaaWInv
import Derived.Test.YthkooncibfkepaaWInvWords
import Derived.Test.YthkooncibfkepaaWGuard
import Derived.Test.YthkooncibfkepaaWNEv
import Derived.Test.YthkooncibfkepaaWMore
import Derived.Test.YthkooncibfkepaaPureCodec04
import Derived.Test.YthkooncibfkepaaManCheck04
import Derived.Lib.Strings
import Derived.Test.YthkooncibfkepaaGx14
import Derived.Test.YthkooncibfkepaaGx15
namespace Go.Proofs.Ythkooncibfkepaa.G
open Go.RowKit Go.Proofs.YthkooncibfkepaaW.PrintWords Go.Proofs.YthkooncibfkepaaW.PrintLast Go.Proofs.YthkooncibfkepaaW.PrintMore
attribute [local go_sem] max2_int min2_int max_two min_two max_three min_three max_four min_four
set_option linter.unusedVariables false
set_option linter.unusedSimpArgs false

/-! plain laws of operations: which may be, how many bytes they have; what Check and Size answer -/
abbrev Op04 := S65
def mayB (x : Op04) : Bool :=
  if (x.f1.size : Int) < 1 then false else if (x.f1.size : Int) > 1024 then false else if x.f0 = 0 then x.f2.toList == ([] : List UInt8) else if x.f0 = 1 then decide ((x.f2.size : Int) ≤ 65536)
  else if x.f0 = 2 then (if (x.f2.size : Int) ≤ 1024 then Op.bytesLess x.f1.toList x.f2.toList else false) else false
theorem may_eq (k : Nat) (x : Op04) : batch_may.f (k + 1) x.f0 x.f1 x.f2 = some (mayB x) := by
  unfold batch_may.f mayB
  by_cases h1 : (x.f1.size : Int) < 1
  · rw [if_pos h1, if_pos h1, batch_may.j0, if_pos rfl]
  · rw [if_neg h1, if_neg h1]
    by_cases h2 : (x.f1.size : Int) > 1024
    · rw [decide_eq_true h2, if_pos h2, batch_may.j0, if_pos rfl]
    · rw [decide_eq_false h2, if_neg h2, batch_may.j0, if_neg Bool.false_ne_true]
      by_cases h3 : x.f0 = 0
      · rw [if_pos h3, if_pos h3]
      · rw [if_neg h3, if_neg h3]
        by_cases h4 : x.f0 = 1
        · rw [if_pos h4, if_pos h4]
        · rw [if_neg h4, if_neg h4]
          by_cases h5 : x.f0 = 2
          · rw [if_pos h5, if_pos h5]
            by_cases h6 : (x.f2.size : Int) ≤ 1024
            · rw [if_pos h6, if_pos h6]
            · rw [if_neg h6, if_neg h6]
          · rw [if_neg h5, if_neg h5]
theorem less_nil (a : List UInt8) : Op.bytesLess a [] = false := by cases a <;> simp [Op.bytesLess]
theorem ba_empty {s : ByteArray} (h : ¬ (s.size : Int) ≥ 1) : s.toList = [] := by
  have : s.data.toList.length = s.size := by rw [Array.length_toList]; rfl
  rw [Lib.toList_data]
  exact List.eq_nil_of_length_eq_zero (by omega)
theorem May_eq (k : Nat) (x : Op04) : moraineref04_May.f (k + 1) x.f0 x.f1 x.f2 = some (mayB x) := by
  unfold moraineref04_May.f mayB
  by_cases h1 : (x.f1.size : Int) < 1
  · rw [if_pos h1, if_pos h1, moraineref04_May.j0, if_pos rfl]
  · rw [if_neg h1, if_neg h1]
    by_cases h2 : (x.f1.size : Int) > 1024
    · rw [decide_eq_true h2, if_pos h2, moraineref04_May.j0, if_pos rfl]
    · rw [decide_eq_false h2, if_neg h2, moraineref04_May.j0, if_neg Bool.false_ne_true]
      by_cases h3 : x.f0 = 0
      · rw [if_pos h3, if_pos h3]
      · rw [if_neg h3, if_neg h3]
        by_cases h4 : x.f0 = 1
        · rw [if_pos h4, if_pos h4]
        · rw [if_neg h4, if_neg h4]
          by_cases h5 : x.f0 = 2
          · rw [if_pos h5, if_pos h5]
            by_cases h7 : (x.f2.size : Int) ≥ 1
            · rw [if_pos h7]
              by_cases h6 : (x.f2.size : Int) ≤ 1024
              · rw [if_pos h6, if_pos h6]
              · rw [if_neg h6, if_neg h6]
            · rw [if_neg h7, if_pos (by omega), ba_empty h7, less_nil]
          · rw [if_neg h5, if_neg h5]
/-- how many bytes a text with its length has -/
def tlen (s : ByteArray) : Nat := (enc (s.size : Int)).length + s.size
def szN (x : Op04) : Nat := if x.f0 = 0 then 1 + tlen x.f1 else 1 + tlen x.f1 + tlen x.f2
def totN : List Op04 → Nat
  | [] => 0
  | x :: r => szN x + totN r
def Sane (l : List Op04) : Prop := l.length ≤ 1048576 ∧ ∀ x ∈ l, x.f1.size ≤ 1048576 ∧ x.f2.size ≤ 1048576
theorem tlen_le {s : ByteArray} (h : s.size ≤ 1048576) : 1 ≤ tlen s ∧ tlen s ≤ 1048586 := by
  have := enc_len (s.size : Int)
  unfold tlen
  omega
theorem szN_le {x : Op04} (h : x.f1.size ≤ 1048576 ∧ x.f2.size ≤ 1048576) : 1 ≤ szN x ∧ szN x ≤ 2097173 := by
  have h1 := tlen_le h.1
  have h2 := tlen_le h.2
  unfold szN
  split <;> omega
theorem totN_le : ∀ (l : List Op04), (∀ x ∈ l, x.f1.size ≤ 1048576 ∧ x.f2.size ≤ 1048576) → totN l ≤ l.length * 2097173
  | [], _ => by simp [totN]
  | x :: r, h => by
    have h1 := szN_le (h x List.mem_cons_self)
    have ih := totN_le r (fun y hy => h y (List.mem_cons_of_mem _ hy))
    simp only [totN, List.length_cons]
    omega
theorem totN_append : ∀ (a b : List Op04), totN (a ++ b) = totN a + totN b
  | [], b => by simp [totN]
  | x :: r, b => by
    have := totN_append r b
    simp only [List.cons_append, totN]
    omega
theorem textsize_eq (k : Nat) (s : ByteArray) (h : s.size ≤ 1048576) (hk : 10 ≤ k) : batch_textSize.f k s = some ((tlen s : Nat) : Int) := by
  have w : IntKind.u64.wrap (s.size : Int) = (s.size : Int) := by rw [Go.IntKind.wrap_u64]; omega
  have hl := enc_len (s.size : Int)
  unfold batch_textSize.f
  rw [w, Size_eq k _ (by omega) (by omega) hk, Option.bind_some]
  unfold tlen
  have w2 : wrap64 (((enc (s.size : Int)).length : Int) + (s.size : Int)) = (((enc (s.size : Int)).length + s.size : Nat) : Int) := by unfold wrap64; omega
  rw [w2]
theorem opsize_eq (k : Nat) (x : Op04) (h : x.f1.size ≤ 1048576 ∧ x.f2.size ≤ 1048576) (hk : 10 ≤ k) : batch_size.f k x.f0 x.f1 x.f2 = some ((szN x : Nat) : Int) := by
  have h1 := tlen_le h.1
  have h2 := tlen_le h.2
  unfold batch_size.f
  rw [textsize_eq k _ h.1 hk, Option.bind_some, textsize_eq k _ h.2 hk]
  unfold szN
  have w1 : wrap64 (1 + (tlen x.f1 : Int)) = ((1 + tlen x.f1 : Nat) : Int) := by unfold wrap64; omega
  have w2 : wrap64 (((1 + tlen x.f1 : Nat) : Int) + (tlen x.f2 : Int)) = ((1 + tlen x.f1 + tlen x.f2 : Nat) : Int) := by unfold wrap64; omega
  by_cases h0 : x.f0 = 0
  · rw [if_pos h0, if_pos h0, w1]
  · rw [if_neg h0, if_neg h0, Option.bind_some, w1, w2]
theorem total_loop (l : List Op04) (hs : Sane l) (k0 : Nat) (hk0 : 10 ≤ k0) : ∀ (d i acc k : Nat), i + d = l.length → acc ≤ 12 + i * 2097173 → k = k0 + d + 1 → batch_total.l0 k (acc : Int) l (l.length : Int) (i : Int) = some ((acc + totN (l.drop i) : Nat) : Int)
  | 0, i, acc, k, hi, _, hk => by
    subst hk
    rw [batch_total.l0, if_neg (by omega), List.drop_eq_nil_of_le (by omega)]
    simp [totN]
  | d + 1, i, acc, k, hi, ha, hk => by
    subst hk
    have hlt : i < l.length := by omega
    have hd := drop_rdT l i hlt
    have hm : rd_T65 l (i : Int) ∈ l := by
      have : rd_T65 l (i : Int) ∈ l.drop i := by rw [hd]; exact List.mem_cons_self
      exact List.mem_of_mem_drop this
    have hx := hs.2 _ hm
    have h1 := szN_le hx
    have h2 := hs.1
    have w : wrap64 ((i : Int) + 1) = ((i + 1 : Nat) : Int) := by unfold wrap64; omega
    have w2 : wrap64 ((acc : Int) + ((szN (rd_T65 l (i : Int)) : Nat) : Int)) = ((acc + szN (rd_T65 l (i : Int)) : Nat) : Int) := by unfold wrap64; omega
    rw [show k0 + (d + 1) + 1 = (k0 + d + 1) + 1 by omega, batch_total.l0, if_pos (by omega), if_pos (by omega), if_pos (by omega), opsize_eq _ _ hx (by omega), Option.bind_some, w, w2, total_loop l hs k0 hk0 d (i + 1) _ _ (by omega) (by omega) rfl, hd]
    simp only [totN]
    rw [Nat.add_assoc]
theorem total_eq (k : Nat) (l : List Op04) (hs : Sane l) (hk : k = 11 + l.length) : batch_total.f k l = some ((12 + totN l : Nat) : Int) := by
  unfold batch_total.f
  have := total_loop l hs 10 (by omega) l.length 0 12 k (by omega) (by omega) (by omega)
  rw [List.drop_zero] at this
  exact this
theorem length_loop : ∀ (f k : Nat) (v : Int) (n : Nat), Small f v → v ≤ 9223372036854775807 → f + 1 ≤ k → n + f ≤ 100 → moraineref04_length.l0 k v n = some (((n + (encF f v).length - 1 : Nat) : Int)) := by
  intro f
  induction f with
  | zero =>
    intro k v n h hv9 hk hn
    obtain ⟨k, rfl⟩ : ∃ m, k = m + 1 := ⟨k - 1, by omega⟩
    have hs := small_zero h
    simp only [moraineref04_length.l0]
    rw [if_neg (show ¬ v ≥ 128 by omega)]
    simp [encF]
  | succ f ih =>
    intro k v n h hv9 hk hn
    obtain ⟨k, rfl⟩ : ∃ m, k = m + 1 := ⟨k - 1, by omega⟩
    have hl := encF_len f (v / 128)
    have h0 := h.1
    have w : wrap64 ((n : Int) + 1) = ((n + 1 : Nat) : Int) := by unfold wrap64; omega
    have w2 : wrap64 (Int.tdiv v 128) = v / 128 := by rw [Int.tdiv_eq_ediv_of_nonneg h0]; unfold wrap64; omega
    simp only [moraineref04_length.l0, encF, w, w2]
    by_cases hv : v ≥ 128
    · rw [if_pos hv, if_pos (show 128 ≤ v from hv), ih k _ (n + 1) (small_div h) (by omega) (by omega) (by omega)]
      simp only [List.length_cons]
      congr 2; omega
    · rw [if_neg hv, if_neg (show ¬ 128 ≤ v from hv)]
      simp
theorem length_eq (k : Nat) (v : Int) (h0 : 0 ≤ v) (h1 : v ≤ 1048576) (hk : 10 ≤ k) : moraineref04_length.f k v = some ((enc v).length : Int) := by
  unfold moraineref04_length.f
  have := length_loop 9 k v 1 (small9 v h0 (by omega)) (by omega) (by omega) (by omega)
  have hl := enc_len v
  unfold enc at *
  rw [show ((1 : Nat) : Int) = 1 by omega] at this
  rw [this]
  congr 2; omega
theorem bytes_eq (k : Nat) (x : Op04) (h : x.f1.size ≤ 1048576 ∧ x.f2.size ≤ 1048576) (hk : 10 ≤ k) : moraineref04_bytes.f k x.f0 x.f1 x.f2 = some ((szN x : Nat) : Int) := by
  have h1 := tlen_le h.1
  have h2 := tlen_le h.2
  have e1 := enc_len (x.f1.size : Int)
  have e2 := enc_len (x.f2.size : Int)
  unfold moraineref04_bytes.f
  rw [length_eq k _ (by omega) (by omega) hk, Option.bind_some, length_eq k _ (by omega) (by omega) hk]
  unfold szN
  unfold tlen at *
  have w1 : wrap64 (wrap64 (1 + ((enc (x.f1.size : Int)).length : Int)) + (x.f1.size : Int)) = ((1 + ((enc (x.f1.size : Int)).length + x.f1.size) : Nat) : Int) := by unfold wrap64; omega
  have w2 : wrap64 (((1 + ((enc (x.f1.size : Int)).length + x.f1.size) : Nat) : Int) + wrap64 (((enc (x.f2.size : Int)).length : Int) + (x.f2.size : Int))) = ((1 + ((enc (x.f1.size : Int)).length + x.f1.size) + ((enc (x.f2.size : Int)).length + x.f2.size) : Nat) : Int) := by unfold wrap64; omega
  by_cases h0 : x.f0 = 0
  · rw [if_pos h0, if_pos h0, w1]
  · rw [if_neg h0, if_neg h0, Option.bind_some, w1, w2]
theorem size_loop (l : List Op04) (hs : Sane l) (k0 : Nat) (hk0 : 10 ≤ k0) : ∀ (d i acc k : Nat), i + d = l.length → acc ≤ 12 + i * 2097173 → k = k0 + d + 1 → moraineref04_size.l0 k l (acc : Int) (i : Int) = some ((acc + totN (l.drop i) : Nat) : Int)
  | 0, i, acc, k, hi, _, hk => by
    subst hk
    rw [moraineref04_size.l0, if_neg (by omega), List.drop_eq_nil_of_le (by omega)]
    simp [totN]
  | d + 1, i, acc, k, hi, ha, hk => by
    subst hk
    have hlt : i < l.length := by omega
    have hd := drop_rdT l i hlt
    have hm : rd_T65 l (i : Int) ∈ l := by
      have : rd_T65 l (i : Int) ∈ l.drop i := by rw [hd]; exact List.mem_cons_self
      exact List.mem_of_mem_drop this
    have hx := hs.2 _ hm
    have h1 := szN_le hx
    have h2 := hs.1
    have w : wrap64 ((i : Int) + 1) = ((i + 1 : Nat) : Int) := by unfold wrap64; omega
    have w2 : wrap64 ((acc : Int) + ((szN (rd_T65 l (i : Int)) : Nat) : Int)) = ((acc + szN (rd_T65 l (i : Int)) : Nat) : Int) := by unfold wrap64; omega
    rw [show k0 + (d + 1) + 1 = (k0 + d + 1) + 1 by omega, moraineref04_size.l0, if_pos (by omega), if_pos (by omega), bytes_eq _ _ hx (by omega), Option.bind_some, w, w2, size_loop l hs k0 hk0 d (i + 1) _ _ (by omega) (by omega) rfl, hd]
    simp only [totN]
    rw [Nat.add_assoc]
theorem refsize_eq (k : Nat) (l : List Op04) (hs : Sane l) (hk : k = 11 + l.length) : moraineref04_size.f k l = some ((12 + totN l : Nat) : Int) := by
  unfold moraineref04_size.f
  have := size_loop l hs 10 (by omega) l.length 0 12 k (by omega) (by omega) (by omega)
  rw [List.drop_zero] at this
  exact this
/-- the place of the first operation that may not be -/
def badN : List Op04 → Nat → Option Nat
  | [], _ => none
  | x :: r, i => if mayB x then badN r (i + 1) else some i
def chk (l : List Op04) : Int × Int := if (l.length : Int) > 4096 then (0, 3) else match badN l 0 with
  | some i => ((i : Int), 40)
  | none => if (12 + totN l : Nat) > 1048576 then (0, 3) else (0, 0)
theorem idx_eq (k : Nat) : ∀ (l : List Op04) (i : Nat), batch_Check.idx (k + 1) l i = some (match badN l i with | some j => (j : Int) | none => -1)
  | [], i => rfl
  | x :: r, i => by
    simp only [batch_Check.idx, badN]
    rw [may_eq, Option.bind_some, idx_eq k r (i + 1)]
    cases mayB x <;> rfl
theorem check_eq (k : Nat) (l : List Op04) (hs : Sane l) (hk : 11 + l.length ≤ k) : batch_Check.f k l = some (chk l) := by
  have ht := at_rounds (g := fun k => batch_total.f k l) (fun k => batch_total.mono _ _) hk (total_eq _ l hs rfl)
  have ht' : batch_total.f k l = some ((12 + totN l : Nat) : Int) := ht
  obtain ⟨k, rfl⟩ : ∃ m, k = m + 1 := ⟨k - 1, by omega⟩
  unfold batch_Check.f chk
  by_cases h : (l.length : Int) > 4096
  · rw [if_pos h, if_pos h]
  · rw [if_neg h, if_neg h, idx_eq, Option.bind_some, ht']
    cases hb : badN l 0 with
    | some j =>
      simp only []
      rw [if_pos (by omega)]
    | none =>
      simp only []
      rw [if_neg (by omega), Option.bind_some]
      by_cases h2 : (12 + totN l : Nat) > 1048576
      · rw [if_pos h2, if_pos (by omega)]
      · rw [if_neg h2, if_neg (by omega)]
theorem refcheck_loop (l : List Op04) (hs : Sane l) : ∀ (d i k : Nat), i + d = l.length → k = 12 + l.length + d + 1 → moraineref04_Check.l0 k l (i : Int) = some (match badN (l.drop i) i with | some j => ((j : Int), 40) | none => if (12 + totN l : Nat) > 1048576 then (0, 3) else (0, 0))
  | 0, i, k, hi, hk => by
    subst hk
    have ht' : moraineref04_size.f (12 + l.length) l = some ((12 + totN l : Nat) : Int) := at_rounds (g := fun k => moraineref04_size.f k l) (fun k => moraineref04_size.mono _ _) (by omega) (refsize_eq _ l hs rfl)
    rw [moraineref04_Check.l0, if_neg (by omega), List.drop_eq_nil_of_le (by omega)]
    simp only [badN, Nat.add_zero]
    rw [ht', Option.bind_some]
    by_cases h2 : (12 + totN l : Nat) > 1048576
    · rw [if_pos h2, if_pos (by omega)]
    · rw [if_neg h2, if_neg (by omega)]
  | d + 1, i, k, hi, hk => by
    subst hk
    have hlt : i < l.length := by omega
    have hd := drop_rdT l i hlt
    have w : wrap64 ((i : Int) + 1) = ((i + 1 : Nat) : Int) := by have := hs.1; unfold wrap64; omega
    rw [show 12 + l.length + (d + 1) + 1 = (12 + l.length + d + 1) + 1 by omega, moraineref04_Check.l0, if_pos (by omega), if_pos (by omega), May_eq, Option.bind_some, w, hd]
    simp only [badN]
    cases hm : mayB (rd_T65 l (i : Int)) with
    | true => simp only [if_true]; exact refcheck_loop l hs d (i + 1) _ (by omega) rfl
    | false => rfl
theorem refcheck_eq (k : Nat) (l : List Op04) (hs : Sane l) (hk : 13 + 2 * l.length ≤ k) : moraineref04_Check.f k l = some (chk l) := by
  have hl := refcheck_loop l hs l.length 0 _ (by omega) rfl
  have hl' : moraineref04_Check.l0 k l 0 = _ := at_rounds (g := fun k => moraineref04_Check.l0 k l 0) (fun k => moraineref04_Check.mono_l k _ _) (by omega) hl
  unfold moraineref04_Check.f chk
  by_cases h : (l.length : Int) > 4096
  · rw [if_pos h, if_pos h]
  · rw [if_neg h, if_neg h, hl', List.drop_zero]
def sizeOf (l : List Op04) : Int × Int := if (chk l).2 = 0 then (((12 + totN l : Nat) : Int), 0) else (0, (chk l).2)
theorem batchsize_eq (k : Nat) (l : List Op04) (hs : Sane l) (hk : 11 + l.length ≤ k) : batch_Size.f k l = some (sizeOf l) := by
  have ht' : batch_total.f k l = some ((12 + totN l : Nat) : Int) := at_rounds (g := fun k => batch_total.f k l) (fun k => batch_total.mono _ _) hk (total_eq _ l hs rfl)
  unfold batch_Size.f sizeOf
  rw [check_eq k l hs hk, Option.bind_some, ht', Option.bind_some]
  split <;> rfl
theorem refSize_eq (k : Nat) (l : List Op04) (hs : Sane l) (hk : 13 + 2 * l.length ≤ k) : moraineref04_Size.f k l = some (sizeOf l) := by
  have ht' : moraineref04_size.f k l = some ((12 + totN l : Nat) : Int) := at_rounds (g := fun k => moraineref04_size.f k l) (fun k => moraineref04_size.mono _ _) (by omega) (refsize_eq _ l hs rfl)
  unfold moraineref04_Size.f sizeOf
  rw [refcheck_eq k l hs hk, Option.bind_some, ht', Option.bind_some]
  split <;> rfl

end Go.Proofs.Ythkooncibfkepaa.G
