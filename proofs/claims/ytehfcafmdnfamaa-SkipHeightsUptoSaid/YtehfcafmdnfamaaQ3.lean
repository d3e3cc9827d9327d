/- Contracts of functions and plain laws, several texts of the session put together by its program. -/
import Derived.Test.YtehfcafmdnfamaaProg
import Derived.Below
import Derived.Deep.Draws
import Derived.Deep.AppendLies
import Derived.Maps.AppendAt
import Derived.OwnWalk
import Derived.Laws.BytesArg
import Derived.Laws.MakeOwn
import Derived.Laws.OwnMore
import Derived.Deep.OwnRows
import Derived.Tactics
import Derived.Lib.ConvBytes
import Derived.Laws.Slices
import Derived.WalkKit
import Derived.KernelRfl
import Derived.RowKit3
import Derived.Deep.LoopGhost
import Derived.Deep.QuietTactic
import Derived.BigQuiet
import Derived.WideLaws
import Derived.Deep.DeepCutAuto
import Derived.Deep.CutBlock
import Derived.Deep.RegionHeld3
import Derived.Laws.Rows
import Derived.Lib.AppendStr
import Derived.ArgAppend
import Derived.Laws.IdiomCopy
import Derived.OrdersHeld
import Derived.Laws.BitsLemmas
import Derived.RowKit
import Derived.Test.YtehfcafmdnfamaaWWords
import Derived.Test.YtehfcafmdnfamaaWLast
import Derived.Test.YtehfcafmdnfamaaWTab
import Derived.Test.YtehfcafmdnfamaaWFour
import Derived.Test.YtehfcafmdnfamaaWQPut
import Derived.Test.YtehfcafmdnfamaaWApart
import Derived.Test.YtehfcafmdnfamaaWArr
import Derived.Test.YtehfcafmdnfamaaWZeros
import Derived.Test.YtehfcafmdnfamaaWFoot
import Derived.Test.YtehfcafmdnfamaaWKept
import Derived.Test.YtehfcafmdnfamaaWShare
import Derived.Test.YtehfcafmdnfamaaWN
import Derived.Test.YtehfcafmdnfamaaWFootNe
import Derived.Test.YtehfcafmdnfamaaWAt
import Derived.Test.YtehfcafmdnfamaaWEqStruct
import Derived.Test.YtehfcafmdnfamaaWRepsOne
import Derived.Test.YtehfcafmdnfamaaWInv
import Derived.Test.YtehfcafmdnfamaaWInvWords
import Derived.Test.YtehfcafmdnfamaaWGuard
import Derived.Test.YtehfcafmdnfamaaWNEv
import Derived.Test.YtehfcafmdnfamaaWMore
import Derived.Test.YtehfcafmdnfamaaRows
import Derived.Deep.Slices
import Derived.Deep.Fields
import Derived.ChangeSame
import Derived.Deep.Strs
import Derived.Lib.SmallJoins
import Derived.Test.YtehfcafmdnfamaaQ2
import Derived.Test.YtehfcafmdnfamaaQ0

/- Contracts typed by hand: an argument that can be read is of its kind: from the form's reading to the words of the walks -/
namespace Go.Proofs.Ytehfcafmdnfamaa.G
open Go.RowKit Go.Proofs.YtehfcafmdnfamaaW.PrintWords Go.Proofs.YtehfcafmdnfamaaW.PrintLast Go.Proofs.YtehfcafmdnfamaaW.PrintMore
attribute [local go_sem] max2_int min2_int max_two min_two max_three min_three max_four min_four
set_option linter.unusedVariables false
set_option linter.unusedSimpArgs false

/-! an argument that can be read is of its kind: from the form's reading to the words of the walks -/
open Go.ChangeShapes Go.WideShapes Go.Deep
structure Opens (P : Program) (t : TypeId) {α : Type} (d : Kd α) (good : α → Prop) (bulk : α → Nat) : Prop where
  sz : P.cellsOf t = d.sz
  one : ∀ x, 1 ≤ bulk x
  go : ∀ {H : Type} {enc : TypeId × Value → H} {w : World} {base : Nat} {spare : Nat → Bool} {held : Bool} {fuel : Nat} {cs : List Value} {x : DataW H × List MemPlace}, DataW.trod enc P w base spare held fuel t cs = some x → ∃ a : α, d.K w a cs ∧ good a ∧ bulk a ≤ Rows.uptoBulk x.1
theorem opens_int {P : Program} {t : TypeId} {k : IntKind} (h : P.underlying t = some (.int k)) (hc : P.cellsOf t = 1) : Opens P t (Kd.int k) (fun n => (Lit.int k n).wf = true) (fun _ => 1) where
  sz := hc
  one := fun _ => Nat.le_refl 1
  go := by
    intro H enc w base spare held fuel cs x hx
    obtain ⟨n, rfl, rfl, hw⟩ := DataW.trod_int h hx
    exact ⟨n, rfl, hw, by simp [Rows.uptoBulk]⟩
theorem opens_bool {P : Program} {t : TypeId} (h : P.underlying t = some .bool) (hc : P.cellsOf t = 1) : Opens P t Kd.bool (fun _ => True) (fun _ => 1) where
  sz := hc
  one := fun _ => Nat.le_refl 1
  go := by
    intro H enc w base spare held fuel cs x hx
    obtain ⟨n, rfl, rfl⟩ := DataW.trod_bool h hx
    exact ⟨n, rfl, trivial, by simp [Rows.uptoBulk]⟩
theorem opens_string {P : Program} {t : TypeId} (h : P.underlying t = some .string) (hc : P.cellsOf t = 1) : Opens P t Kd.string (fun s => s.size ≤ maxLen) (fun s => s.size + 1) where
  sz := hc
  one := fun s => Nat.le_add_left 1 s.size
  go := by
    intro H enc w base spare held fuel cs x hx
    obtain ⟨s, rfl, rfl, hw⟩ := DataW.trod_string h hx
    exact ⟨s, rfl, hw, by simp [Rows.uptoBulk]⟩
def sumBulk {α : Type} (bulk : α → Nat) (l : List α) : Nat := (l.map bulk).sum
theorem sumBulk_nil {α : Type} (bulk : α → Nat) : sumBulk bulk [] = 0 := rfl
theorem sumBulk_cons {α : Type} (bulk : α → Nat) (x : α) (l : List α) : sumBulk bulk (x :: l) = bulk x + sumBulk bulk l := by simp [sumBulk]
theorem sumBulk_append {α : Type} (bulk : α → Nat) (l r : List α) : sumBulk bulk (l ++ r) = sumBulk bulk l + sumBulk bulk r := by simp [sumBulk, List.sum_append]
theorem sumBulk_mem {α : Type} (bulk : α → Nat) {x : α} {l : List α} (h : x ∈ l) : bulk x ≤ sumBulk bulk l := by
  induction l with
  | nil => cases h
  | cons y r ih =>
    rw [sumBulk_cons]
    rcases List.mem_cons.1 h with rfl | h
    · omega
    · have := ih h; omega
theorem sumBulk_len {α : Type} (bulk : α → Nat) (h1 : ∀ x, 1 ≤ bulk x) (l : List α) : l.length ≤ sumBulk bulk l := by
  induction l with
  | nil => exact Nat.zero_le _
  | cons y r ih => rw [sumBulk_cons, List.length_cons]; have := h1 y; omega
theorem list_of {α : Type} {Q : Nat → α → Prop} : ∀ (n : Nat), (∀ i, i < n → ∃ y, Q i y) → ∃ l : List α, l.length = n ∧ ∀ i y, l[i]? = some y → Q i y
  | 0, _ => ⟨[], rfl, fun i y h => by simp at h⟩
  | n + 1, h => by
    obtain ⟨l, hl, hq⟩ := list_of n (fun i hi => h i (by omega))
    obtain ⟨y, hy⟩ := h n (by omega)
    refine ⟨l ++ [y], by simp [hl], fun i z hz => ?_⟩
    rcases Nat.lt_trichotomy i n with hi | hi | hi
    · rw [List.getElem?_append_left (by omega)] at hz
      exact hq i z hz
    · subst hi
      rw [List.getElem?_append_right (by omega), hl] at hz
      simp at hz
      subst hz
      exact hy
    · rw [List.getElem?_eq_none (by simp [hl]; omega)] at hz
      cases hz
theorem bulkAll_append {H : Type} (l r : List (DataW H)) : Rows.uptoBulkAll (l ++ r) = Rows.uptoBulkAll l + Rows.uptoBulkAll r := by
  induction l with
  | nil => simp [Rows.uptoBulkAll]
  | cons x l ih => simp only [List.cons_append, Rows.uptoBulkAll, ih]; omega
theorem bulkAll_map {H : Type} {α : Type} (bulk : α → Nat) (D : Nat → DataW H) : ∀ (n : Nat) (l : List α), l.length = n → (∀ i y, l[i]? = some y → bulk y ≤ Rows.uptoBulk (D i)) → sumBulk bulk l ≤ Rows.uptoBulkAll ((List.range n).map D)
  | 0, l, hl, _ => by
    have : l = [] := List.length_eq_zero_iff.1 hl
    subst this
    simp [sumBulk]
  | n + 1, l, hl, h => by
    have hne : l ≠ [] := by
      intro e
      rw [e] at hl
      simp at hl
    obtain ⟨l0, y0, rfl⟩ : ∃ l0 y0, l = l0 ++ [y0] := ⟨l.dropLast, l.getLast hne, (List.dropLast_concat_getLast hne).symm⟩
    have hd : l0.length = n := by simpa using hl
    have ih := bulkAll_map bulk D n l0 hd (fun i y hy => h i y (by
      have hi : i < l0.length := (List.getElem?_eq_some_iff.1 hy).1
      rw [List.getElem?_append_left hi]
      exact hy))
    have hn := h n y0 (by
      rw [List.getElem?_append_right (by omega), hd]
      simp)
    rw [List.range_succ, List.map_append, bulkAll_append, sumBulk_append]
    simp only [List.map_cons, List.map_nil, sumBulk_cons, sumBulk_nil, Rows.uptoBulkAll]
    omega
theorem opens_slice {P : Program} {t e : TypeId} {α : Type} {d : Kd α} {good : α → Prop} {bulk : α → Nat} (h : P.underlying t = some (.slice e)) (hc : P.cellsOf t = 1) (he : Opens P e d good bulk) : Opens P t (Kd.slice e d) (fun l => ∀ x ∈ l, good x) (fun l => sumBulk bulk l + 1) where
  sz := hc
  one := fun l => Nat.le_add_left 1 _
  go := by
    intro H enc w base spare held fuel cs x hx
    rcases open_slice h hx with ⟨rfl, rfl⟩ | ⟨a, len, cap, m, n, D, Pl, rfl, hb, hl, hm, hmm, rfl, hi⟩
    · exact ⟨[], ⟨none, 0, rfl, Nat.le_refl _, Kd.C_nil _ _⟩, by simp, by simp [sumBulk, Rows.uptoBulk]⟩
    · have hlm : len ≤ m := by
        rw [hmm]
        split
        · exact hl
        · exact Nat.le_refl _
      obtain ⟨l, hll, hq⟩ := list_of (Q := fun i y => ∃ cs', w.cells? base (a.add (i * P.cellsOf e)) (P.cellsOf e) = some cs' ∧ d.K w y cs' ∧ good y ∧ bulk y ≤ Rows.uptoBulk (D i)) len (fun i hlt => by
        obtain ⟨cs', hcs, ht⟩ := hi i (by omega)
        obtain ⟨y, h1, h2, h3⟩ := he.go ht
        exact ⟨y, cs', hcs, h1, h2, h3⟩)
      subst hll
      refine ⟨l, ⟨some a, cap, rfl, hl, rfl, by unfold maxLen at hm; omega, fun _ => ⟨a, rfl, fun j p hj => ?_⟩⟩, fun x hx => ?_, ?_⟩
      · obtain ⟨cs', hcs, hk, _, _⟩ := hq j p hj
        obtain ⟨_, hlen, hat⟩ := World.cells?_some hcs
        rw [he.sz] at hlen hat
        refine ⟨cs', hlen, hk, fun i u hu => ?_⟩
        have hil : i < cs'.length := (List.getElem?_eq_some_iff.1 hu).1
        have := hat i (by omega)
        rw [Go.Deep.add_add] at this
        rw [this, hu]
      · obtain ⟨i, hi2⟩ := List.getElem?_of_mem hx
        obtain ⟨_, _, _, hg, _⟩ := hq i x hi2
        exact hg
      · have hbk := bulkAll_map bulk D l.length l rfl (fun i y hy => by
          obtain ⟨_, _, _, _, h5⟩ := hq i y hy
          exact h5)
        simp only [Rows.uptoBulk]
        omega
theorem opens_struct2 {P : Program} {t : TypeId} {f0 f1 : Field} {α β : Type} {d0 : Kd α} {d1 : Kd β} {g0 : α → Prop} {g1 : β → Prop} {b0 : α → Nat} {b1 : β → Nat} (ht : P.underlying t = some (.struct #[f0, f1])) (hc : P.cellsOf t = d0.sz + d1.sz)
    (ho0 : f0.offset = 0) (ho1 : f1.offset = d0.sz) (h0 : Opens P f0.type d0 g0 b0) (h1 : Opens P f1.type d1 g1 b1) : Opens P t (Kd.pair d0 d1) (fun x => g0 x.1 ∧ g1 x.2) (fun x => b0 x.1 + b1 x.2 + 1) where
  sz := hc
  one := fun l => Nat.le_add_left 1 _
  go := by
    intro H enc w base spare held fuel cs x hx
    obtain ⟨y0, y1, n, rfl, hl, e0, e1⟩ := trod_struct2 ht hx
    obtain ⟨a, k0, q0, p0⟩ := h0.go e0
    obtain ⟨b, k1, q1, p1⟩ := h1.go e1
    rw [ho0, h0.sz] at k0
    rw [ho1, h1.sz] at k1
    refine ⟨(a, b), ⟨_, _, ?_, k0, k1⟩, ⟨q0, q1⟩, ?_⟩
    · rw [List.drop_zero]
      have hd : (cs.drop d0.sz).take d1.sz = cs.drop d0.sz := List.take_of_length_le (by rw [List.length_drop]; omega)
      rw [hd, List.take_append_drop]
    · simp only [Rows.uptoBulk, Rows.uptoBulkAll]
      omega
theorem opens_struct3 {P : Program} {t : TypeId} {f0 f1 f2 : Field} {α β γ : Type} {d0 : Kd α} {d1 : Kd β} {d2 : Kd γ} {g0 : α → Prop} {g1 : β → Prop} {g2 : γ → Prop} {b0 : α → Nat} {b1 : β → Nat} {b2 : γ → Nat} (ht : P.underlying t = some (.struct #[f0, f1, f2])) (hc : P.cellsOf t = d0.sz + (d1.sz + d2.sz))
    (ho0 : f0.offset = 0) (ho1 : f1.offset = d0.sz) (ho2 : f2.offset = d0.sz + d1.sz) (h0 : Opens P f0.type d0 g0 b0) (h1 : Opens P f1.type d1 g1 b1) (h2 : Opens P f2.type d2 g2 b2) : Opens P t (Kd.pair d0 (Kd.pair d1 d2)) (fun x => g0 x.1 ∧ g1 x.2.1 ∧ g2 x.2.2) (fun x => b0 x.1 + b1 x.2.1 + b2 x.2.2 + 1) where
  sz := hc
  one := fun l => Nat.le_add_left 1 _
  go := by
    intro H enc w base spare held fuel cs x hx
    obtain ⟨y0, y1, y2, n, rfl, hl, e0, e1, e2⟩ := trod_struct3 ht hx
    obtain ⟨a, k0, q0, p0⟩ := h0.go e0
    obtain ⟨b, k1, q1, p1⟩ := h1.go e1
    obtain ⟨c, k2, q2, p2⟩ := h2.go e2
    rw [ho0, h0.sz] at k0
    rw [ho1, h1.sz] at k1
    rw [ho2, h2.sz] at k2
    refine ⟨(a, b, c), ⟨_, _, ?_, k0, _, _, rfl, k1, k2⟩, ⟨q0, q1, q2⟩, ?_⟩
    · rw [List.drop_zero]
      have hd : (cs.drop (d0.sz + d1.sz)).take d2.sz = cs.drop (d0.sz + d1.sz) := List.take_of_length_le (by rw [List.length_drop]; omega)
      rw [hd, ← List.drop_drop, List.take_append_drop, List.take_append_drop]
    · simp only [Rows.uptoBulk, Rows.uptoBulkAll]
      omega
theorem seg_join {α : Type} (cs : List α) (o n : Nat) : (cs.drop o).take n ++ cs.drop (o + n) = cs.drop o := by
  rw [← List.drop_drop, List.take_append_drop]
theorem opens_struct4 {P : Program} {t : TypeId} {f0 f1 f2 f3 : Field} {α0 α1 α2 α3 : Type} {d0 : Kd α0} {d1 : Kd α1} {d2 : Kd α2} {d3 : Kd α3} {g0 : α0 → Prop} {g1 : α1 → Prop} {g2 : α2 → Prop} {g3 : α3 → Prop} {b0 : α0 → Nat} {b1 : α1 → Nat} {b2 : α2 → Nat} {b3 : α3 → Nat} (ht : P.underlying t = some (.struct #[f0, f1, f2, f3])) (hc : P.cellsOf t = (d0.sz + (d1.sz + (d2.sz + d3.sz))))
    (ho0 : f0.offset = 0) (ho1 : f1.offset = d0.sz) (ho2 : f2.offset = d0.sz + d1.sz) (ho3 : f3.offset = d0.sz + d1.sz + d2.sz) (h0 : Opens P f0.type d0 g0 b0) (h1 : Opens P f1.type d1 g1 b1) (h2 : Opens P f2.type d2 g2 b2) (h3 : Opens P f3.type d3 g3 b3) : Opens P t (Kd.pair d0 (Kd.pair d1 (Kd.pair d2 d3))) (fun x => g0 x.1 ∧ g1 x.2.1 ∧ g2 x.2.2.1 ∧ g3 x.2.2.2) (fun x => b0 x.1 + b1 x.2.1 + b2 x.2.2.1 + b3 x.2.2.2 + 1) where
  sz := hc
  one := fun l => Nat.le_add_left 1 _
  go := by
    intro H enc w base spare held fuel cs x hx
    obtain ⟨xs, n, _, rfl, hl, hlen, hf⟩ := DataW.trod_struct ht hx
    match xs, hlen with
    | [y0, y1, y2, y3], _ =>
      obtain ⟨a0, k0, q0, p0⟩ := h0.go (show DataW.trod enc P w base spare held n f0.type ((cs.drop f0.offset).take (P.cellsOf f0.type)) = some y0 from by simpa using hf 0 f0 rfl)
      rw [ho0, h0.sz] at k0
      obtain ⟨a1, k1, q1, p1⟩ := h1.go (show DataW.trod enc P w base spare held n f1.type ((cs.drop f1.offset).take (P.cellsOf f1.type)) = some y1 from by simpa using hf 1 f1 rfl)
      rw [ho1, h1.sz] at k1
      obtain ⟨a2, k2, q2, p2⟩ := h2.go (show DataW.trod enc P w base spare held n f2.type ((cs.drop f2.offset).take (P.cellsOf f2.type)) = some y2 from by simpa using hf 2 f2 rfl)
      rw [ho2, h2.sz] at k2
      obtain ⟨a3, k3, q3, p3⟩ := h3.go (show DataW.trod enc P w base spare held n f3.type ((cs.drop f3.offset).take (P.cellsOf f3.type)) = some y3 from by simpa using hf 3 f3 rfl)
      rw [ho3, h3.sz] at k3
      refine ⟨(a0, a1, a2, a3), ⟨_, _, ?_, k0, _, _, rfl, k1, _, _, rfl, k2, k3⟩, ⟨q0, q1, q2, q3⟩, ?_⟩
      · rw [List.drop_zero]
        have hd : (cs.drop (d0.sz + d1.sz + d2.sz)).take d3.sz = cs.drop (d0.sz + d1.sz + d2.sz) := List.take_of_length_le (by rw [List.length_drop]; omega)
        rw [hd, seg_join, seg_join, List.take_append_drop]
      · simp only [List.map_cons, List.map_nil, Rows.uptoBulk, Rows.uptoBulkAll]
        omega
theorem opens_struct5 {P : Program} {t : TypeId} {f0 f1 f2 f3 f4 : Field} {α0 α1 α2 α3 α4 : Type} {d0 : Kd α0} {d1 : Kd α1} {d2 : Kd α2} {d3 : Kd α3} {d4 : Kd α4} {g0 : α0 → Prop} {g1 : α1 → Prop} {g2 : α2 → Prop} {g3 : α3 → Prop} {g4 : α4 → Prop} {b0 : α0 → Nat} {b1 : α1 → Nat} {b2 : α2 → Nat} {b3 : α3 → Nat} {b4 : α4 → Nat} (ht : P.underlying t = some (.struct #[f0, f1, f2, f3, f4])) (hc : P.cellsOf t = (d0.sz + (d1.sz + (d2.sz + (d3.sz + d4.sz)))))
    (ho0 : f0.offset = 0) (ho1 : f1.offset = d0.sz) (ho2 : f2.offset = d0.sz + d1.sz) (ho3 : f3.offset = d0.sz + d1.sz + d2.sz) (ho4 : f4.offset = d0.sz + d1.sz + d2.sz + d3.sz) (h0 : Opens P f0.type d0 g0 b0) (h1 : Opens P f1.type d1 g1 b1) (h2 : Opens P f2.type d2 g2 b2) (h3 : Opens P f3.type d3 g3 b3) (h4 : Opens P f4.type d4 g4 b4) : Opens P t (Kd.pair d0 (Kd.pair d1 (Kd.pair d2 (Kd.pair d3 d4)))) (fun x => g0 x.1 ∧ g1 x.2.1 ∧ g2 x.2.2.1 ∧ g3 x.2.2.2.1 ∧ g4 x.2.2.2.2) (fun x => b0 x.1 + b1 x.2.1 + b2 x.2.2.1 + b3 x.2.2.2.1 + b4 x.2.2.2.2 + 1) where
  sz := hc
  one := fun l => Nat.le_add_left 1 _
  go := by
    intro H enc w base spare held fuel cs x hx
    obtain ⟨xs, n, _, rfl, hl, hlen, hf⟩ := DataW.trod_struct ht hx
    match xs, hlen with
    | [y0, y1, y2, y3, y4], _ =>
      obtain ⟨a0, k0, q0, p0⟩ := h0.go (show DataW.trod enc P w base spare held n f0.type ((cs.drop f0.offset).take (P.cellsOf f0.type)) = some y0 from by simpa using hf 0 f0 rfl)
      rw [ho0, h0.sz] at k0
      obtain ⟨a1, k1, q1, p1⟩ := h1.go (show DataW.trod enc P w base spare held n f1.type ((cs.drop f1.offset).take (P.cellsOf f1.type)) = some y1 from by simpa using hf 1 f1 rfl)
      rw [ho1, h1.sz] at k1
      obtain ⟨a2, k2, q2, p2⟩ := h2.go (show DataW.trod enc P w base spare held n f2.type ((cs.drop f2.offset).take (P.cellsOf f2.type)) = some y2 from by simpa using hf 2 f2 rfl)
      rw [ho2, h2.sz] at k2
      obtain ⟨a3, k3, q3, p3⟩ := h3.go (show DataW.trod enc P w base spare held n f3.type ((cs.drop f3.offset).take (P.cellsOf f3.type)) = some y3 from by simpa using hf 3 f3 rfl)
      rw [ho3, h3.sz] at k3
      obtain ⟨a4, k4, q4, p4⟩ := h4.go (show DataW.trod enc P w base spare held n f4.type ((cs.drop f4.offset).take (P.cellsOf f4.type)) = some y4 from by simpa using hf 4 f4 rfl)
      rw [ho4, h4.sz] at k4
      refine ⟨(a0, a1, a2, a3, a4), ⟨_, _, ?_, k0, _, _, rfl, k1, _, _, rfl, k2, _, _, rfl, k3, k4⟩, ⟨q0, q1, q2, q3, q4⟩, ?_⟩
      · rw [List.drop_zero]
        have hd : (cs.drop (d0.sz + d1.sz + d2.sz + d3.sz)).take d4.sz = cs.drop (d0.sz + d1.sz + d2.sz + d3.sz) := List.take_of_length_le (by rw [List.length_drop]; omega)
        rw [hd, seg_join, seg_join, seg_join, List.take_append_drop]
      · simp only [List.map_cons, List.map_nil, Rows.uptoBulk, Rows.uptoBulkAll]
        omega
theorem opens_struct6 {P : Program} {t : TypeId} {f0 f1 f2 f3 f4 f5 : Field} {α0 α1 α2 α3 α4 α5 : Type} {d0 : Kd α0} {d1 : Kd α1} {d2 : Kd α2} {d3 : Kd α3} {d4 : Kd α4} {d5 : Kd α5} {g0 : α0 → Prop} {g1 : α1 → Prop} {g2 : α2 → Prop} {g3 : α3 → Prop} {g4 : α4 → Prop} {g5 : α5 → Prop} {b0 : α0 → Nat} {b1 : α1 → Nat} {b2 : α2 → Nat} {b3 : α3 → Nat} {b4 : α4 → Nat} {b5 : α5 → Nat} (ht : P.underlying t = some (.struct #[f0, f1, f2, f3, f4, f5])) (hc : P.cellsOf t = (d0.sz + (d1.sz + (d2.sz + (d3.sz + (d4.sz + d5.sz))))))
    (ho0 : f0.offset = 0) (ho1 : f1.offset = d0.sz) (ho2 : f2.offset = d0.sz + d1.sz) (ho3 : f3.offset = d0.sz + d1.sz + d2.sz) (ho4 : f4.offset = d0.sz + d1.sz + d2.sz + d3.sz) (ho5 : f5.offset = d0.sz + d1.sz + d2.sz + d3.sz + d4.sz) (h0 : Opens P f0.type d0 g0 b0) (h1 : Opens P f1.type d1 g1 b1) (h2 : Opens P f2.type d2 g2 b2) (h3 : Opens P f3.type d3 g3 b3) (h4 : Opens P f4.type d4 g4 b4) (h5 : Opens P f5.type d5 g5 b5) : Opens P t (Kd.pair d0 (Kd.pair d1 (Kd.pair d2 (Kd.pair d3 (Kd.pair d4 d5))))) (fun x => g0 x.1 ∧ g1 x.2.1 ∧ g2 x.2.2.1 ∧ g3 x.2.2.2.1 ∧ g4 x.2.2.2.2.1 ∧ g5 x.2.2.2.2.2) (fun x => b0 x.1 + b1 x.2.1 + b2 x.2.2.1 + b3 x.2.2.2.1 + b4 x.2.2.2.2.1 + b5 x.2.2.2.2.2 + 1) where
  sz := hc
  one := fun l => Nat.le_add_left 1 _
  go := by
    intro H enc w base spare held fuel cs x hx
    obtain ⟨xs, n, _, rfl, hl, hlen, hf⟩ := DataW.trod_struct ht hx
    match xs, hlen with
    | [y0, y1, y2, y3, y4, y5], _ =>
      obtain ⟨a0, k0, q0, p0⟩ := h0.go (show DataW.trod enc P w base spare held n f0.type ((cs.drop f0.offset).take (P.cellsOf f0.type)) = some y0 from by simpa using hf 0 f0 rfl)
      rw [ho0, h0.sz] at k0
      obtain ⟨a1, k1, q1, p1⟩ := h1.go (show DataW.trod enc P w base spare held n f1.type ((cs.drop f1.offset).take (P.cellsOf f1.type)) = some y1 from by simpa using hf 1 f1 rfl)
      rw [ho1, h1.sz] at k1
      obtain ⟨a2, k2, q2, p2⟩ := h2.go (show DataW.trod enc P w base spare held n f2.type ((cs.drop f2.offset).take (P.cellsOf f2.type)) = some y2 from by simpa using hf 2 f2 rfl)
      rw [ho2, h2.sz] at k2
      obtain ⟨a3, k3, q3, p3⟩ := h3.go (show DataW.trod enc P w base spare held n f3.type ((cs.drop f3.offset).take (P.cellsOf f3.type)) = some y3 from by simpa using hf 3 f3 rfl)
      rw [ho3, h3.sz] at k3
      obtain ⟨a4, k4, q4, p4⟩ := h4.go (show DataW.trod enc P w base spare held n f4.type ((cs.drop f4.offset).take (P.cellsOf f4.type)) = some y4 from by simpa using hf 4 f4 rfl)
      rw [ho4, h4.sz] at k4
      obtain ⟨a5, k5, q5, p5⟩ := h5.go (show DataW.trod enc P w base spare held n f5.type ((cs.drop f5.offset).take (P.cellsOf f5.type)) = some y5 from by simpa using hf 5 f5 rfl)
      rw [ho5, h5.sz] at k5
      refine ⟨(a0, a1, a2, a3, a4, a5), ⟨_, _, ?_, k0, _, _, rfl, k1, _, _, rfl, k2, _, _, rfl, k3, _, _, rfl, k4, k5⟩, ⟨q0, q1, q2, q3, q4, q5⟩, ?_⟩
      · rw [List.drop_zero]
        have hd : (cs.drop (d0.sz + d1.sz + d2.sz + d3.sz + d4.sz)).take d5.sz = cs.drop (d0.sz + d1.sz + d2.sz + d3.sz + d4.sz) := List.take_of_length_le (by rw [List.length_drop]; omega)
        rw [hd, seg_join, seg_join, seg_join, seg_join, List.take_append_drop]
      · simp only [List.map_cons, List.map_nil, Rows.uptoBulk, Rows.uptoBulkAll]
        omega
theorem opens_struct7 {P : Program} {t : TypeId} {f0 f1 f2 f3 f4 f5 f6 : Field} {α0 α1 α2 α3 α4 α5 α6 : Type} {d0 : Kd α0} {d1 : Kd α1} {d2 : Kd α2} {d3 : Kd α3} {d4 : Kd α4} {d5 : Kd α5} {d6 : Kd α6} {g0 : α0 → Prop} {g1 : α1 → Prop} {g2 : α2 → Prop} {g3 : α3 → Prop} {g4 : α4 → Prop} {g5 : α5 → Prop} {g6 : α6 → Prop} {b0 : α0 → Nat} {b1 : α1 → Nat} {b2 : α2 → Nat} {b3 : α3 → Nat} {b4 : α4 → Nat} {b5 : α5 → Nat} {b6 : α6 → Nat} (ht : P.underlying t = some (.struct #[f0, f1, f2, f3, f4, f5, f6])) (hc : P.cellsOf t = (d0.sz + (d1.sz + (d2.sz + (d3.sz + (d4.sz + (d5.sz + d6.sz)))))))
    (ho0 : f0.offset = 0) (ho1 : f1.offset = d0.sz) (ho2 : f2.offset = d0.sz + d1.sz) (ho3 : f3.offset = d0.sz + d1.sz + d2.sz) (ho4 : f4.offset = d0.sz + d1.sz + d2.sz + d3.sz) (ho5 : f5.offset = d0.sz + d1.sz + d2.sz + d3.sz + d4.sz) (ho6 : f6.offset = d0.sz + d1.sz + d2.sz + d3.sz + d4.sz + d5.sz) (h0 : Opens P f0.type d0 g0 b0) (h1 : Opens P f1.type d1 g1 b1) (h2 : Opens P f2.type d2 g2 b2) (h3 : Opens P f3.type d3 g3 b3) (h4 : Opens P f4.type d4 g4 b4) (h5 : Opens P f5.type d5 g5 b5) (h6 : Opens P f6.type d6 g6 b6) : Opens P t (Kd.pair d0 (Kd.pair d1 (Kd.pair d2 (Kd.pair d3 (Kd.pair d4 (Kd.pair d5 d6)))))) (fun x => g0 x.1 ∧ g1 x.2.1 ∧ g2 x.2.2.1 ∧ g3 x.2.2.2.1 ∧ g4 x.2.2.2.2.1 ∧ g5 x.2.2.2.2.2.1 ∧ g6 x.2.2.2.2.2.2) (fun x => b0 x.1 + b1 x.2.1 + b2 x.2.2.1 + b3 x.2.2.2.1 + b4 x.2.2.2.2.1 + b5 x.2.2.2.2.2.1 + b6 x.2.2.2.2.2.2 + 1) where
  sz := hc
  one := fun l => Nat.le_add_left 1 _
  go := by
    intro H enc w base spare held fuel cs x hx
    obtain ⟨xs, n, _, rfl, hl, hlen, hf⟩ := DataW.trod_struct ht hx
    match xs, hlen with
    | [y0, y1, y2, y3, y4, y5, y6], _ =>
      obtain ⟨a0, k0, q0, p0⟩ := h0.go (show DataW.trod enc P w base spare held n f0.type ((cs.drop f0.offset).take (P.cellsOf f0.type)) = some y0 from by simpa using hf 0 f0 rfl)
      rw [ho0, h0.sz] at k0
      obtain ⟨a1, k1, q1, p1⟩ := h1.go (show DataW.trod enc P w base spare held n f1.type ((cs.drop f1.offset).take (P.cellsOf f1.type)) = some y1 from by simpa using hf 1 f1 rfl)
      rw [ho1, h1.sz] at k1
      obtain ⟨a2, k2, q2, p2⟩ := h2.go (show DataW.trod enc P w base spare held n f2.type ((cs.drop f2.offset).take (P.cellsOf f2.type)) = some y2 from by simpa using hf 2 f2 rfl)
      rw [ho2, h2.sz] at k2
      obtain ⟨a3, k3, q3, p3⟩ := h3.go (show DataW.trod enc P w base spare held n f3.type ((cs.drop f3.offset).take (P.cellsOf f3.type)) = some y3 from by simpa using hf 3 f3 rfl)
      rw [ho3, h3.sz] at k3
      obtain ⟨a4, k4, q4, p4⟩ := h4.go (show DataW.trod enc P w base spare held n f4.type ((cs.drop f4.offset).take (P.cellsOf f4.type)) = some y4 from by simpa using hf 4 f4 rfl)
      rw [ho4, h4.sz] at k4
      obtain ⟨a5, k5, q5, p5⟩ := h5.go (show DataW.trod enc P w base spare held n f5.type ((cs.drop f5.offset).take (P.cellsOf f5.type)) = some y5 from by simpa using hf 5 f5 rfl)
      rw [ho5, h5.sz] at k5
      obtain ⟨a6, k6, q6, p6⟩ := h6.go (show DataW.trod enc P w base spare held n f6.type ((cs.drop f6.offset).take (P.cellsOf f6.type)) = some y6 from by simpa using hf 6 f6 rfl)
      rw [ho6, h6.sz] at k6
      refine ⟨(a0, a1, a2, a3, a4, a5, a6), ⟨_, _, ?_, k0, _, _, rfl, k1, _, _, rfl, k2, _, _, rfl, k3, _, _, rfl, k4, _, _, rfl, k5, k6⟩, ⟨q0, q1, q2, q3, q4, q5, q6⟩, ?_⟩
      · rw [List.drop_zero]
        have hd : (cs.drop (d0.sz + d1.sz + d2.sz + d3.sz + d4.sz + d5.sz)).take d6.sz = cs.drop (d0.sz + d1.sz + d2.sz + d3.sz + d4.sz + d5.sz) := List.take_of_length_le (by rw [List.length_drop]; omega)
        rw [hd, seg_join, seg_join, seg_join, seg_join, seg_join, List.take_append_drop]
      · simp only [List.map_cons, List.map_nil, Rows.uptoBulk, Rows.uptoBulkAll]
        omega
/-- a kind that is told by a structure of its own -/
theorem opens_iso {P : Program} {t : TypeId} {α β : Type} {d : Kd α} {good : α → Prop} {bulk : α → Nat} (h : Opens P t d good bulk) (f : β → α) (g : α → β) (hfg : ∀ a, f (g a) = a) : Opens P t (Kd.iso d f) (fun x => good (f x)) (fun x => bulk (f x)) where
  sz := h.sz
  one := fun x => h.one (f x)
  go := by
    intro H enc w base spare held fuel cs x hx
    obtain ⟨a, k, q, p⟩ := h.go hx
    refine ⟨g a, ?_, ?_, ?_⟩
    · show d.K w (f (g a)) cs
      rw [hfg]; exact k
    · rw [hfg]; exact q
    · rw [hfg]; exact p
/-- an argument's bulk, of the whole's -/
theorem bulk_bound {H : Type} {ds : List (DataW H)} (hk : Rows.uptoSmall H ds = true) : Rows.uptoBulkAll ds ≤ 1048576 := of_decide_eq_true hk

end Go.Proofs.Ytehfcafmdnfamaa.G

/- Contracts typed by hand: the law SkipDown -/
namespace Go.Proofs.Ytehfcafmdnfamaa.G
open Go.RowKit Go.Proofs.YtehfcafmdnfamaaW.PrintWords Go.Proofs.YtehfcafmdnfamaaW.PrintLast Go.Proofs.YtehfcafmdnfamaaW.PrintMore
attribute [local go_sem] max2_int min2_int max_two min_two max_three min_three max_four min_four
set_option linter.unusedVariables false
set_option linter.unusedSimpArgs false

/-! the law SkipDown -/
theorem trt_get {V : Type} (S : SL V) (k : IK) {i : Nat} (h : i < S.height) : rd (trt S k 0 S.height) (i : Int) = ((tr S.ht (S.height - 1 - i) (S.below k) : Nat) : Int) := by
  rw [rd_at _ (by rw [trt_len]; exact h)]
  unfold trt
  rw [List.getElem_map, List.getElem_reverse]
  simp
def lnk {V : Type} (S : SL V) (j : Nat) : List Nat := S.order.filter fun z => decide (j < S.ht z)
theorem lvl_lnk {V : Type} (S : SL V) (j : Nat) : lvl S (j : Int) = (lnk S j).map fun z : Nat => (z : Int) := by rw [lvl_nat]; rfl
/-- the last one of some that is below a key -/
def lastB {V : Type} (S : SL V) (k : IK) (l : List Nat) : Nat := lastOf (l.filter fun z => kl (S.key z) k)
theorem lastB_snoc {V : Type} (S : SL V) (k : IK) (l : List Nat) (z : Nat) : lastB S k (l ++ [z]) = if kl (S.key z) k = true then z else lastB S k l := by
  unfold lastB
  by_cases h : kl (S.key z) k = true
  · rw [if_pos h, List.filter_append, List.filter_cons_of_pos (by simpa using h), List.filter_nil, lastOf_snoc]
  · rw [if_neg h, List.filter_append, List.filter_cons_of_neg (by simpa using h), List.filter_nil, List.append_nil]
theorem sk_next0 (g base most : Nat) (S : SL Int) (w : World) (h : SkAt w g base S most) (k : IK) (hb : S.before k ≠ 0) : Calls Try.prog 28 #[.pointer (some ⟨g, 0, none⟩), .int .i64 ((S.before k : Nat) : Int)] w fun e w' => e = .returned (.int .i64 ((S.seek k : Nat) : Int)) ∧ w = w' := by
  obtain ⟨a, ha, _⟩ := order_before h.fine.1 k hb
  exact sk_next g base most S a (S.rest k) (S.before k) w h ha
theorem sk_prev0 (g base most : Nat) (S : SL Int) (w : World) (h : SkAt w g base S most) (k : IK) (hs : S.seek k ≠ 0) : Calls Try.prog 29 #[.pointer (some ⟨g, 0, none⟩), .int .i64 ((S.seek k : Nat) : Int)] w fun e w' => e = .returned (.int .i64 ((S.before k : Nat) : Int)) ∧ w = w' := by
  have hp := S.part h.fine.1 k
  unfold SL.seek at hs ⊢
  cases hc : S.rest k with
  | nil => rw [hc] at hs; exact absurd rfl hs
  | cons z d =>
    rw [hc] at hp
    exact sk_prev g base most S (S.below k) d z w h hp
set_option maxHeartbeats 32000000 in
set_option maxRecDepth 100000 in
theorem down_calls (A : Option Addr) (c : Nat) (l : List Put08) (k : IK) (w : World) (hr : Kd.C PutK w A l.length l) (hc : l.length ≤ c) (hlen : l.length ≤ 1048576) :
    Calls Try.prog 5 #[.slice A l.length c, .agg #[.string k.1, .int .u64 k.2.1, .int .i64 k.2.2]] w fun e w' => e = .returned (.bool true) ∧ Below w.heap.size w w' := by
  have HR0 := Aside0.mk hr
  have HC0 := Aside0.mk hc
  have HLE := Aside0.mk hlen
  obtain ⟨W1, hW1⟩ : ∃ W1, w.alloc (.cells #[.string k.1, .int .u64 k.2.1, .int .i64 k.2.2] 37) = W1 := ⟨_, rfl⟩
  have HB := Aside0.mk (show Below w.heap.size w W1 by rw [← hW1]; exact below_alloc (Below.refl _ _) _)
  have HX := Aside0.mk (show W1.heap[w.heap.size]? = some (.cells #[.string k.1, .int .u64 k.2.1, .int .i64 k.2.2] 37 (0, 0)) by rw [← hW1]; exact blk_new w _)
  have HE1 := Aside0.mk hW1
  clear hr hc hlen hW1
  go_enter Try.func5, Try.ntmps5
  go_wp2_with fail
  rw [HE1.out]
  (with_reducible refine (works_calls _).mono ?_)
  rintro e w2 ⟨rfl, hb⟩
  have HB := Aside0.mk (below_step HB.out hb)
  have HX := Aside0.mk (blk_below HX.out hb)
  clear hb HE1
  go_wp2_with fail
  (with_reducible refine (made_calls A c l 0 _ (Kd.C_below HR0.out HB.out) HC0.out HLE.out).mono ?_)
  rintro e w3 ⟨g, tk, rfl, hsk, hrt, hb⟩
  obtain ⟨base, hbase⟩ : ∃ base, w2.heap.size = base := ⟨_, rfl⟩
  rw [hbase] at hsk
  have HSK := Aside0.mk hsk
  have HB := Aside0.mk (below_step HB.out hb)
  have HX := Aside0.mk (blk_below HX.out hb)
  generalize (madeL 0 l).1 = S at HSK
  clear hsk hrt hb hbase
  have HF := Aside0.mk HSK.out.fine
  have x0 := blk_cell HX.out 0
  have x1 := blk_cell HX.out 1
  have x2 := blk_cell HX.out 2
  go_wp2_with fail
  (with_reducible refine (sk_trailL g base 1048576 S k _ HSK.out).mono ?_)
  rintro e w4 ⟨v7, rfl, hrt, hb⟩
  have HSK := Aside0.mk (HSK.out.below hb)
  have HB := Aside0.mk (below_step HB.out hb)
  have HX := Aside0.mk (blk_below HX.out hb)
  obtain ⟨At, ct, rfl, hct, hCt⟩ := Kd.R_reads hrt
  rw [trt_len] at hct hCt ⊢
  have HCT := Aside0.mk hct
  have HRT := Aside0.mk hCt
  have HTG := Aside0.mk (fun (i : Nat) (h : i < S.height) => trt_get S k h)
  have hH12 := S.height_le HF.out.1
  have hHT := sk_height g base 1048576 S w4 HSK.out
  generalize trt S k 0 S.height = tl at HRT HTG
  obtain ⟨H, hH⟩ : ∃ H, S.height = H := ⟨_, rfl⟩
  rw [hH] at HCT HRT HTG hHT hH12 ⊢
  have HHT := Aside0.mk hHT
  have HH := Aside0.mk hH
  clear hrt hb hct hCt hHT hH x0 x1 x2
  go_wp2_with fail
  (with_reducible refine HHT.out.mono ?_)
  rintro e w5 ⟨rfl, rfl⟩
  go_wp2_with fail
  obtain ⟨W0, hW0⟩ : ∃ W0, w4 = W0 := ⟨_, rfl⟩
  have HB0 := Aside0.mk (Below.refl W0.heap.size W0)
  rw [hW0] at HSK HB HX HRT ⊢
  clear HHT hW0
  go_loopg [8] (1 + H) (fun kq v8 wr => ∃ i : Nat, v8 = .int .i64 (i : Int) ∧ i ≤ H ∧ H - i < kq ∧ Aside0 (Below W0.heap.size W0 wr))
  case atStart => exact ⟨0, rfl, Nat.zero_le _, by omega, HB0⟩
  case round =>
    clear HB0
    obtain ⟨i, rfl, hiH, hkq, HBR⟩ := hrel
    cases gk with
    | zero => omega
    | succ gk1 =>
    have HSR := Aside0.mk (HSK.out.below HBR.out)
    have HBW := Aside0.mk (below_step HB.out HBR.out)
    have HXR := Aside0.mk (blk_below HX.out HBR.out)
    by_cases hi : i < H
    · have b1 : decide ((i : Int) < (H : Int)) = true := decide_eq_true (by omega)
      have b1n : decide (i < H) = true := decide_eq_true hi
      obtain ⟨j, hj⟩ : ∃ j, H - 1 - i = j := ⟨_, rfl⟩
      have HHR := Aside0.mk (sk_height g base 1048576 S wr HSR.out)
      rw [HH.out] at HHR
      have hsub : (H : Int) - 1 - (i : Int) = (j : Int) := by omega
      have HLI := Aside0.mk (sk_links g base 1048576 S (j : Int) wr HSR.out)
      rw [← hsub] at HLI
      rw [show lvl S ((H : Int) - 1 - (i : Int)) = (lnk S j).map (fun z : Nat => (z : Int)) by rw [hsub, lvl_lnk]] at HLI
      have HTI := Aside0.mk (show rd tl (i : Int) = ((lastB S k (lnk S j) : Nat) : Int) by rw [HTG.out i hi, hj, tr_links]; rfl)
      have hh0 : 1 ≤ (H : Int) := by omega
      have HJ := Aside0.mk hsub
      clear hj hsub
      go_wp2_with fail
      (with_reducible refine HHR.out.mono ?_)
      rintro e w6 ⟨rfl, rfl⟩
      go_wp2_with fail
      (with_reducible refine HLI.out.mono ?_)
      rintro e w7 ⟨v9, rfl, hrl, hb⟩
      obtain ⟨Al, cl, rfl, hcl, hCl⟩ := Kd.R_reads hrl
      rw [List.length_map] at hcl hCl ⊢
      have HRL := Aside0.mk hCl
      have HBR := Aside0.mk (below_step HBR.out hb)
      have hll : (lnk S j).length ≤ S.order.length := List.length_filter_le _ _
      have hol : S.order.length ≤ 1048576 := by rw [HF.out.1.len]; exact HF.out.2.1
      obtain ⟨n, hn⟩ : ∃ n, (lnk S j).length = n := ⟨_, rfl⟩
      rw [hn] at HRL hll ⊢
      have HN := Aside0.mk hn
      have hnb : n ≤ 1048576 := by omega
      clear hrl hb hcl hCl hn hll hol HHR HLI HSR HBW HXR
      go_wp2_with fail
      go_loopg [10, 11] (1 + n) (fun kq v10 v11 wq => ∃ (q : Nat) (y : Nat), v11 = .int .i64 (q : Int) ∧ v10 = .int .i64 (y : Int) ∧ q ≤ n ∧ n - q < kq ∧ Aside0 (lastB S k ((lnk S j).take q) = y) ∧ Aside0 (Below w7.heap.size w7 wq))
      case atStart => exact ⟨0, 0, rfl, rfl, Nat.zero_le _, by omega, ⟨rfl⟩, ⟨Below.refl _ _⟩⟩
      case round =>
        obtain ⟨q, y, rfl, rfl, hqn, hkq2, HY, HBQ⟩ := hrel
        cases gk with
        | zero => omega
        | succ gk2 =>
        have HBT := Aside0.mk (below_step HBR.out HBQ.out)
        have HSQ := Aside0.mk (HSK.out.below HBT.out)
        have HBW := Aside0.mk (below_step HB.out HBT.out)
        have HXQ := Aside0.mk (blk_below HX.out HBT.out)
        by_cases hq : q < n
        · have d1 : decide ((q : Int) < (n : Int)) = true := decide_eq_true (by omega)
          have d1n : decide (q < n) = true := decide_eq_true hq
          have hql : q < (lnk S j).length := by rw [HN.out]; exact hq
          obtain ⟨ad, hA, hc7⟩ := Kd.at_int HRL.out (q : Int) (by omega) (by omega)
          subst hA
          have hrd : rd ((lnk S j).map (fun z : Nat => (z : Int))) (q : Int) = (((lnk S j)[q] : Nat) : Int) := by
            rw [rd_at _ (by rw [List.length_map]; exact hql), List.getElem_map]
          rw [hrd, Int.toNat_natCast] at hc7
          have htk : (lnk S j).take (q + 1) = (lnk S j).take q ++ [(lnk S j)[q]] := by rw [List.take_add_one, List.getElem?_eq_getElem hql]; rfl
          have hzm := HF.out.1.mem ((lnk S j)[q]) (List.mem_filter.1 (List.getElem_mem hql)).1
          obtain ⟨z, hz⟩ : ∃ z, (lnk S j)[q] = z := ⟨_, rfl⟩
          rw [hz] at hc7 htk hzm
          have HTK := Aside0.mk htk
          have hx : ∃ x, S.nodes[z - 1]? = some x := ⟨_, List.getElem?_eq_getElem (by omega)⟩
          obtain ⟨⟨⟨ks, kn, kd⟩, xv, xh⟩, hx⟩ := hx
          have hkey : S.key z = (ks, kn, kd) := by unfold SL.key; rw [hx]
          have HND := Aside0.mk (sk_node g base 1048576 S z _ wr HSQ.out hzm.1 hx)
          simp only [encV_] at HND
          have HCMP := Aside0.mk (fun W => ikey_Compare.calls (0 + 4) ks kn kd k.1 k.2.1 k.2.2 _ W (compare_eq 0 _ _ _ _ _ _))
          have HKL := Aside0.mk (show decide (kc ks.toList kn kd k.1.toList k.2.1 k.2.2 < 0) = kl (S.key z) k by rw [hkey]; rfl)
          obtain ⟨r, hr⟩ : ∃ r, kc ks.toList kn kd k.1.toList k.2.1 k.2.2 = r := ⟨_, rfl⟩
          rw [hr] at HCMP HKL
          have HLS := Aside0.mk (lastB_snoc S k ((lnk S j).take q) z)
          have HC7 := Aside0.mk hc7
          have hcell := (HBQ.out.cell (World.block_lt_of_cell? w7 _ hc7)).trans hc7
          clear hc7
          have hzb : z ≤ 1048576 := by have := HF.out.2.1; omega
          clear hrd htk hzm hz hx hkey hr hql
          go_wp2_with fail
          (with_reducible refine HND.out.mono ?_)
          rintro e w8 ⟨rfl, hb⟩
          have HB8 := Aside0.mk (below_step HBQ.out hb)
          have HXQ := Aside0.mk (blk_below HXQ.out hb)
          clear hb HND hcell
          have HXA := Aside0.mk (blk_alloc HXQ.out (.cells #[.string ks, .int .u64 kn, .int .i64 kd] 37))
          have HB8 := Aside0.mk (below_alloc HB8.out (.cells #[.string ks, .int .u64 kn, .int .i64 kd] 37))
          have y0 := blk_cell HXA.out 0
          have y1 := blk_cell HXA.out 1
          have y2 := blk_cell HXA.out 2
          go_wp2_with fail
          (with_reducible refine (HCMP.out _).mono ?_)
          rintro e w9 ⟨rfl, hb⟩
          have HB9 := Aside0.mk (below_step HB8.out hb)
          have hcell9 := (HB9.out.cell (World.block_lt_of_cell? w7 _ HC7.out)).trans HC7.out
          clear hb HB8 HXA y0 y1 y2 HCMP
          by_cases hrr : r < 0
          · have b2 : decide (r < 0) = true := decide_eq_true hrr
            have HY2 := Aside0.mk (show lastB S k ((lnk S j).take (q + 1)) = z by rw [HTK.out, HLS.out, if_pos (HKL.out.symm.trans b2)])
            go_wp2
            go_roundg gk2
            case measure => omega
            case rel => exact ⟨q + 1, z, by go_num, rfl, by omega, by omega, HY2, HB9⟩
          · have b2 : decide (r < 0) = false := decide_eq_false hrr
            have HY2 := Aside0.mk (show lastB S k ((lnk S j).take (q + 1)) = y by rw [HTK.out, HLS.out, if_neg (fun e => by rw [HKL.out, e] at b2; cases b2)]; exact HY.out)
            have b3 : 0 ≤ r := by omega
            clear hcell9
            go_wp2
            go_roundg gk2
            case measure => omega
            case rel => exact ⟨q + 1, y, by go_num, rfl, by omega, by omega, HY2, HB9⟩
        · obtain rfl : q = n := by omega
          have d1 : decide ((q : Int) < (q : Int)) = false := decide_eq_false (by omega)
          have d1n : decide (q < q) = false := decide_eq_false (by omega)
          have hy : lastB S k (lnk S j) = y := by
            have := HY.out
            rwa [List.take_of_length_le (by rw [HN.out]; exact Nat.le_refl _)] at this
          obtain ⟨ad, hA, hcell⟩ := Kd.at_int (Kd.C_below HRT.out HBT.out) (i : Int) (by omega) (by omega)
          subst hA
          rw [HTI.out, hy, Int.toNat_natCast] at hcell
          clear hy
          go_wp2
          go_roundg gk1
          case measure => omega
          case rel => exact ⟨i + 1, by go_num, by omega, by omega, HBT⟩
    · obtain rfl : i = H := by omega
      have b1 : decide ((i : Int) < (i : Int)) = false := decide_eq_false (by omega)
      have b1n : decide (i < i) = false := decide_eq_false (by omega)
      obtain ⟨p, hp⟩ : ∃ p, S.before k = p := ⟨_, rfl⟩
      obtain ⟨s, hs⟩ : ∃ s, S.seek k = s := ⟨_, rfl⟩
      have HBE := Aside0.mk (fun W (h : SkAt W g base S 1048576) => sk_before g base 1048576 S k W h)
      have HSE := Aside0.mk (fun W (h : SkAt W g base S 1048576) => sk_seek g base 1048576 S k W h)
      rw [hp] at HBE
      rw [hs] at HSE
      have HP := Aside0.mk hp
      have HS := Aside0.mk hs
      have y0 := blk_cell HXR.out 0
      have y1 := blk_cell HXR.out 1
      have y2 := blk_cell HXR.out 2
      clear hp hs hkq
      go_wp2_with fail
      refine start_ (n := 8) (S := fun w' => w'.cell? ⟨w.heap.size, 0, none⟩ = some (.string k.1) ∧ w'.cell? ⟨w.heap.size, 1, none⟩ = some (.int .u64 k.2.1) ∧ w'.cell? ⟨w.heap.size, 2, none⟩ = some (.int .i64 k.2.2)) (ds := []) #[false, false, false, false, false, false, false, false] (by kernel_rfl) rfl rfl ⟨y0, y1, y2⟩ (fun hHeld => ?_)
      refine pure_ (i := 0) (N := some 79) (v := ?_) (a' := ?_) #[true, false, false, false, false, false, false, false] rfl rfl (by kernel_rfl) (fun _ _ _ h => h) (Or.inl ⟨by rfl, ?_⟩) ?_ ?_
      rotate_left
      · intro w'
        go_simp
        with_reducible rfl
      rotate_left
      · simp only [Act.put, List.setIfInBounds_toArray, List.set_cons_zero, List.set_cons_succ, i64_w, i32_w]
        rfl
      refine pure_ (i := 3) (N := some 82) (v := ?_) (a' := ?_) #[true, false, false, true, false, false, false, false] rfl rfl (by kernel_rfl) (fun _ _ _ h => h) (Or.inl ⟨by rfl, ?_⟩) ?_ ?_
      rotate_left
      · intro w'
        go_simp
        with_reducible rfl
      rotate_left
      · simp only [Act.put, List.setIfInBounds_toArray, List.set_cons_zero, List.set_cons_succ, i64_w, i32_w]
        rfl
      refine take_ (i := 1) (N := some 80) (v := ?_) (a' := ?_) #[true, true, false, true, false, false, false, false] rfl rfl (by kernel_rfl) (fun _ _ _ h => h) (Or.inl ⟨by rfl, ?_⟩) hHeld ?_ ?_
      rotate_left
      · rintro w' ⟨s0, s1, s2⟩
        go_simp
        with_reducible rfl
      rotate_left
      · simp only [Act.put, List.setIfInBounds_toArray, List.set_cons_zero, List.set_cons_succ, i64_w, i32_w]
        rfl
      refine take_ (i := 4) (N := some 83) (v := ?_) (a' := ?_) #[true, true, false, true, true, false, false, false] rfl rfl (by kernel_rfl) (fun _ _ _ h => h) (Or.inl ⟨by rfl, ?_⟩) hHeld ?_ ?_
      rotate_left
      · rintro w' ⟨s0, s1, s2⟩
        go_simp
        with_reducible rfl
      rotate_left
      · simp only [Act.put, List.setIfInBounds_toArray, List.set_cons_zero, List.set_cons_succ, i64_w, i32_w]
        rfl
      refine one_ (i := 2) (N := some 81) #[true, true, true, true, true, false, false, false] rfl rfl (by kernel_rfl) (by decide) (fun K hK => ?_)
      refine goes_ Try.func25 (by kernel_rfl) rfl #[.pointer (some ⟨g, 0, none⟩), .agg #[.string k.1, .int .u64 k.2.1, .int .i64 k.2.2]] (by rfl) rfl rfl (by simp only [List.map_toArray, List.map_cons, List.map_nil]; rfl) ?_
      with_reducible refine (HBE.out _ (HSR.out.below (below_drew1 (Below.refl _ _)))).mono ?_
      rintro e wa ⟨rfl, hb⟩
      refine ⟨_, rfl, ?_⟩
      have HBA := Aside0.mk (show Below wr.heap.size wr wa from below_step (below_drew1 (Below.refl _ _)) hb)
      clear hb
      refine hK.out _ _ ⟨pw_cell_below HBA.out y0, pw_cell_below HBA.out y1, pw_cell_below HBA.out y2⟩ (fun hHeld => ?_)
      clear hK K
      refine norm_ (a' := ?_) ?_ ?_
      rotate_left
      · show Act.put _ (some 81) _ = _
        simp only [Act.put, List.setIfInBounds_toArray, List.set_cons_zero, List.set_cons_succ, i64_w, i32_w]
        rfl
      refine one_ (i := 5) (N := some 84) #[true, true, true, true, true, true, false, false] rfl rfl (by kernel_rfl) (by decide) (fun K hK => ?_)
      refine goes_ Try.func26 (by kernel_rfl) rfl #[.pointer (some ⟨g, 0, none⟩), .agg #[.string k.1, .int .u64 k.2.1, .int .i64 k.2.2]] (by rfl) rfl rfl (by simp only [List.map_toArray, List.map_cons, List.map_nil]; rfl) ?_
      with_reducible refine (HSE.out _ (HSR.out.below HBA.out)).mono ?_
      rintro e wb ⟨rfl, hb⟩
      refine ⟨_, rfl, ?_⟩
      have HBB := Aside0.mk (show Below wr.heap.size wr wb from below_step HBA.out hb)
      clear hb
      refine hK.out _ _ ⟨pw_cell_below HBB.out y0, pw_cell_below HBB.out y1, pw_cell_below HBB.out y2⟩ (fun hHeld => ?_)
      clear hK K
      refine norm_ (a' := ?_) ?_ ?_
      rotate_left
      · show Act.put _ (some 84) _ = _
        simp only [Act.put, List.setIfInBounds_toArray, List.set_cons_zero, List.set_cons_succ, i64_w, i32_w]
        rfl
      refine pure_ (i := 6) (N := some 15) (v := ?_) (a' := ?_) #[true, true, true, true, true, true, true, false] rfl rfl (by kernel_rfl) (fun _ _ _ h => h) (Or.inl ⟨by rfl, ?_⟩) ?_ ?_
      rotate_left
      · intro w'
        go_simp
        with_reducible rfl
      rotate_left
      · simp only [Act.put, List.setIfInBounds_toArray, List.set_cons_zero, List.set_cons_succ, i64_w, i32_w]
        rfl
      refine pure_ (i := 7) (N := some 16) (v := ?_) (a' := ?_) #[true, true, true, true, true, true, true, true] rfl rfl (by kernel_rfl) (fun _ _ _ h => h) (Or.inl ⟨by rfl, ?_⟩) ?_ ?_
      rotate_left
      · intro w'
        go_simp
        with_reducible rfl
      rotate_left
      · simp only [Act.put, List.setIfInBounds_toArray, List.set_cons_zero, List.set_cons_succ, i64_w, i32_w]
        rfl
      refine done_ (by kernel_rfl) ?_
      have HSB := Aside0.mk (HSR.out.below HBB.out)
      have HEND := Aside0.mk (below_step HBW.out HBB.out)
      have HFI := Aside0.mk (sk_first g base 1048576 S wb HSB.out)
      have HNX := Aside0.mk (fun (h : p ≠ 0) => sk_next0 g base 1048576 S wb HSB.out k (by rw [HP.out]; exact h))
      have HPV := Aside0.mk (fun (h : s ≠ 0) => sk_prev0 g base 1048576 S wb HSB.out k (by rw [HS.out]; exact h))
      rw [HP.out, HS.out] at HNX HPV
      have HPZ := Aside0.mk (show p = 0 → S.order.headD 0 = s by
        intro h
        have hb := before_zero HF.out.1 k (HP.out.trans h)
        have hp := S.part HF.out.1 k
        rw [hb, List.nil_append] at hp
        rw [hp]
        exact HS.out)
      have fin : ∀ W0_ : World, True := fun _ => trivial
      clear fin y0 y1 y2
      have HTL := Aside0.mk (show 0 < i → rd tl ((i : Int) - 1) = (p : Int) by
        intro h
        have := HTG.out (i - 1) (by omega)
        rw [show i - 1 - (i - 1) = 0 by omega, tr_zero (fun z hz => (S.ht_pos HF.out.1 (SL.mem_below hz).1).1)] at this
        rw [show (i : Int) - 1 = ((i - 1 : Nat) : Int) by omega, this]
        exact congrArg (fun n : Nat => (n : Int)) HP.out)
      have tail : ∀ (hh : Prop), True := fun _ => trivial
      clear tail
      by_cases hi0 : i = 0
      · subst hi0
        by_cases hp0 : p = 0
        · have HQ := Aside0.mk (HPZ.out hp0)
          subst hp0
          rw [HQ.out] at HFI
          go_wp2_with fail
          (with_reducible refine HFI.out.mono ?_)
          rintro e wz ⟨rfl, rfl⟩
          go_wp2
          go_ret
          exact ⟨by simp, HEND.out⟩
        · have d3 : ((p : Int) == 0) = false := by simp; omega
          have HQ := Aside0.mk (HNX.out hp0)
          clear hp0
          go_wp2_with fail
          (with_reducible refine HQ.out.mono ?_)
          rintro e wz ⟨rfl, rfl⟩
          by_cases hs0 : s = 0
          · subst hs0
            go_wp2
            go_ret
            exact ⟨by simp, HEND.out⟩
          · have d4 : ((s : Int) == 0) = false := by simp; omega
            have HQ2 := Aside0.mk (HPV.out hs0)
            clear hs0
            go_wp2_with fail
            (with_reducible refine HQ2.out.mono ?_)
            rintro e wz ⟨rfl, rfl⟩
            go_wp2
            go_ret
            exact ⟨by simp, HEND.out⟩
      · have d1 : decide ((i : Int) > 0) = true := decide_eq_true (by omega)
        have d2 : (1 : Int) ≤ (i : Int) := by omega
        obtain ⟨ad, hA, hcell⟩ := Kd.at_int (Kd.C_below HRT.out (below_step HBR.out HBB.out)) ((i : Int) - 1) (by omega) (by omega)
        subst hA
        rw [HTL.out (by omega)] at hcell
        have hcell2 := hcell
        rw [show ((i : Int) - 1).toNat = i - 1 by omega] at hcell2
        by_cases hp0 : p = 0
        · have HQ := Aside0.mk (HPZ.out hp0)
          subst hp0
          rw [HQ.out] at HFI
          go_wp2_with fail
          (with_reducible refine HFI.out.mono ?_)
          rintro e wz ⟨rfl, rfl⟩
          go_wp2
          go_ret
          exact ⟨by simp, HEND.out⟩
        · have d3 : ((p : Int) == 0) = false := by simp; omega
          have HQ := Aside0.mk (HNX.out hp0)
          clear hp0
          go_wp2_with fail
          (with_reducible refine HQ.out.mono ?_)
          rintro e wz ⟨rfl, rfl⟩
          by_cases hs0 : s = 0
          · subst hs0
            go_wp2
            go_ret
            exact ⟨by simp, HEND.out⟩
          · have d4 : ((s : Int) == 0) = false := by simp; omega
            have HQ2 := Aside0.mk (HPV.out hs0)
            clear hs0
            go_wp2_with fail
            (with_reducible refine HQ2.out.mono ?_)
            rintro e wz ⟨rfl, rfl⟩
            go_wp2
            go_ret
            exact ⟨by simp, HEND.out⟩
theorem open_k3 {w : World} {cs : Array Value} {k : ByteArray} {s n : Int} (h : (Kd.pair Kd.string (Kd.pair (Kd.int .u64) (Kd.int .i64))).K w (k, s, n) cs.toList) : cs = #[.string k, .int .u64 s, .int .i64 n] := by
  obtain ⟨d1, d2, e2, h1, ⟨f1, f2, e3, g1, g2⟩⟩ := h
  have e4 : d1 = [.string k] := h1
  have e5 : f1 = [.int .u64 s] := g1
  have e6 : f2 = [.int .i64 n] := g2
  subst e4 e5 e6
  subst e3
  apply Array.toList_inj.1
  simpa using e2
theorem SkipDown_upto (w : World) (A0 : Option Addr) (c0 : Nat) (l0 : List (S37 × Int)) (hc0 : l0.length ≤ c0) (hr0 : Kd.C (Kd.pair k37 (Kd.int .i64)) w A0 l0.length l0) (hg0 : ∀ x ∈ l0, (x.1.f0.size ≤ maxLen ∧ (Lit.int .u64 x.1.f1).wf = true ∧ (Lit.int .i64 x.1.f2).wf = true) ∧ (Lit.int .i64 x.2).wf = true)
    (cs1 : Array Value) (x1 : (ByteArray × Int × Int)) (hK1 : (Kd.pair Kd.string (Kd.pair (Kd.int .u64) (Kd.int .i64))).K w x1 cs1.toList) (hg1 : x1.1.size ≤ maxLen ∧ (Lit.int .u64 x1.2.1).wf = true ∧ (Lit.int .i64 x1.2.2).wf = true)
    (hbulk : (sumBulk (fun x : S37 × Int => (x.1.f0.size + 1 + 1 + 1 + 1) + 1 + 1) l0 + 1) + (x1.1.size + 1 + 1 + 1 + 1) ≤ 1048576) :
    Calls Try.prog 5 #[.slice A0 l0.length c0, .agg cs1] w fun e w' => e = .returned (.bool true) ∧ Below w.heap.size w w' := by
  obtain ⟨k, s, n⟩ := x1
  have hcs := open_k3 hK1
  subst hcs
  have hlen := sumBulk_len (fun x : S37 × Int => (x.1.f0.size + 1 + 1 + 1 + 1) + 1 + 1) (fun _ => by omega) l0
  exact down_calls A0 c0 l0 (k, s, n) w hr0 hc0 (by omega)

end Go.Proofs.Ytehfcafmdnfamaa.G
