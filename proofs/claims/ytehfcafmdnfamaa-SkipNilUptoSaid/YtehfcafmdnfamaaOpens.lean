/- Contracts typed by hand: an argument that can be read is of its kind: from the form's reading to the words of the walks -/
import Derived.Test.YtehfcafmdnfamaaProg
import Derived.Below
import Derived.Deep.Draws
import Derived.Deep.AppendLies
import Derived.Maps.AppendAt
import Derived.OwnWalk
import Derived.Laws.BytesArg
import Derived.Laws.MakeOwn
import Derived.Laws.OwnMore
import Derived.Deep.OwnRows
import Derived.Tactics
import Derived.Lib.ConvBytes
import Derived.Laws.Slices
import Derived.WalkKit
import Derived.KernelRfl
import Derived.RowKit3
import Derived.Deep.LoopGhost
import Derived.Deep.QuietTactic
import Derived.BigQuiet
import Derived.WideLaws
import Derived.Deep.DeepCutAuto
import Derived.Deep.CutBlock
import Derived.Deep.RegionHeld3
import Derived.Laws.Rows
import Derived.Lib.AppendStr
import Derived.ArgAppend
import Derived.Laws.IdiomCopy
import Derived.OrdersHeld
import Derived.Laws.BitsLemmas
import Derived.RowKit
import Derived.Test.YtehfcafmdnfamaaWWords
import Derived.Test.YtehfcafmdnfamaaWLast
import Derived.Test.YtehfcafmdnfamaaWTab
import Derived.Test.YtehfcafmdnfamaaWFour
import Derived.Test.YtehfcafmdnfamaaWQPut
import Derived.Test.YtehfcafmdnfamaaWApart
import Derived.Test.YtehfcafmdnfamaaWArr
import Derived.Test.YtehfcafmdnfamaaWZeros
import Derived.Test.YtehfcafmdnfamaaWFoot
import Derived.Test.YtehfcafmdnfamaaWKept
import Derived.Test.YtehfcafmdnfamaaWShare
import Derived.Test.YtehfcafmdnfamaaWN
import Derived.Test.YtehfcafmdnfamaaWFootNe
import Derived.Test.YtehfcafmdnfamaaWAt
import Derived.Test.YtehfcafmdnfamaaWEqStruct
import Derived.Test.YtehfcafmdnfamaaWRepsOne
import Derived.Test.YtehfcafmdnfamaaWInv
import Derived.Test.YtehfcafmdnfamaaWInvWords
import Derived.Test.YtehfcafmdnfamaaWGuard
import Derived.Test.YtehfcafmdnfamaaWNEv
import Derived.Test.YtehfcafmdnfamaaWMore
import Derived.Test.YtehfcafmdnfamaaRows
import Derived.Deep.Slices
import Derived.Deep.Fields
import Derived.ChangeSame
import Derived.Deep.Strs
import Derived.Lib.SmallJoins
namespace Go.Proofs.Ytehfcafmdnfamaa.G
open Go.RowKit Go.Proofs.YtehfcafmdnfamaaW.PrintWords Go.Proofs.YtehfcafmdnfamaaW.PrintLast Go.Proofs.YtehfcafmdnfamaaW.PrintMore
attribute [local go_sem] max2_int min2_int max_two min_two max_three min_three max_four min_four
set_option linter.unusedVariables false
set_option linter.unusedSimpArgs false

/-! an argument that can be read is of its kind: from the form's reading to the words of the walks -/
open Go.ChangeShapes Go.WideShapes Go.Deep
structure Opens (P : Program) (t : TypeId) {α : Type} (d : Kd α) (good : α → Prop) (bulk : α → Nat) : Prop where
  sz : P.cellsOf t = d.sz
  one : ∀ x, 1 ≤ bulk x
  go : ∀ {H : Type} {enc : TypeId × Value → H} {w : World} {base : Nat} {spare : Nat → Bool} {held : Bool} {fuel : Nat} {cs : List Value} {x : DataW H × List MemPlace}, DataW.trod enc P w base spare held fuel t cs = some x → ∃ a : α, d.K w a cs ∧ good a ∧ bulk a ≤ Rows.uptoBulk x.1
theorem opens_int {P : Program} {t : TypeId} {k : IntKind} (h : P.underlying t = some (.int k)) (hc : P.cellsOf t = 1) : Opens P t (Kd.int k) (fun n => (Lit.int k n).wf = true) (fun _ => 1) where
  sz := hc
  one := fun _ => Nat.le_refl 1
  go := by
    intro H enc w base spare held fuel cs x hx
    obtain ⟨n, rfl, rfl, hw⟩ := DataW.trod_int h hx
    exact ⟨n, rfl, hw, by simp [Rows.uptoBulk]⟩
theorem opens_bool {P : Program} {t : TypeId} (h : P.underlying t = some .bool) (hc : P.cellsOf t = 1) : Opens P t Kd.bool (fun _ => True) (fun _ => 1) where
  sz := hc
  one := fun _ => Nat.le_refl 1
  go := by
    intro H enc w base spare held fuel cs x hx
    obtain ⟨n, rfl, rfl⟩ := DataW.trod_bool h hx
    exact ⟨n, rfl, trivial, by simp [Rows.uptoBulk]⟩
theorem opens_string {P : Program} {t : TypeId} (h : P.underlying t = some .string) (hc : P.cellsOf t = 1) : Opens P t Kd.string (fun s => s.size ≤ maxLen) (fun s => s.size + 1) where
  sz := hc
  one := fun s => Nat.le_add_left 1 s.size
  go := by
    intro H enc w base spare held fuel cs x hx
    obtain ⟨s, rfl, rfl, hw⟩ := DataW.trod_string h hx
    exact ⟨s, rfl, hw, by simp [Rows.uptoBulk]⟩
def sumBulk {α : Type} (bulk : α → Nat) (l : List α) : Nat := (l.map bulk).sum
theorem sumBulk_nil {α : Type} (bulk : α → Nat) : sumBulk bulk [] = 0 := rfl
theorem sumBulk_cons {α : Type} (bulk : α → Nat) (x : α) (l : List α) : sumBulk bulk (x :: l) = bulk x + sumBulk bulk l := by simp [sumBulk]
theorem sumBulk_append {α : Type} (bulk : α → Nat) (l r : List α) : sumBulk bulk (l ++ r) = sumBulk bulk l + sumBulk bulk r := by simp [sumBulk, List.sum_append]
theorem sumBulk_mem {α : Type} (bulk : α → Nat) {x : α} {l : List α} (h : x ∈ l) : bulk x ≤ sumBulk bulk l := by
  induction l with
  | nil => cases h
  | cons y r ih =>
    rw [sumBulk_cons]
    rcases List.mem_cons.1 h with rfl | h
    · omega
    · have := ih h; omega
theorem sumBulk_len {α : Type} (bulk : α → Nat) (h1 : ∀ x, 1 ≤ bulk x) (l : List α) : l.length ≤ sumBulk bulk l := by
  induction l with
  | nil => exact Nat.zero_le _
  | cons y r ih => rw [sumBulk_cons, List.length_cons]; have := h1 y; omega
theorem list_of {α : Type} {Q : Nat → α → Prop} : ∀ (n : Nat), (∀ i, i < n → ∃ y, Q i y) → ∃ l : List α, l.length = n ∧ ∀ i y, l[i]? = some y → Q i y
  | 0, _ => ⟨[], rfl, fun i y h => by simp at h⟩
  | n + 1, h => by
    obtain ⟨l, hl, hq⟩ := list_of n (fun i hi => h i (by omega))
    obtain ⟨y, hy⟩ := h n (by omega)
    refine ⟨l ++ [y], by simp [hl], fun i z hz => ?_⟩
    rcases Nat.lt_trichotomy i n with hi | hi | hi
    · rw [List.getElem?_append_left (by omega)] at hz
      exact hq i z hz
    · subst hi
      rw [List.getElem?_append_right (by omega), hl] at hz
      simp at hz
      subst hz
      exact hy
    · rw [List.getElem?_eq_none (by simp [hl]; omega)] at hz
      cases hz
theorem bulkAll_append {H : Type} (l r : List (DataW H)) : Rows.uptoBulkAll (l ++ r) = Rows.uptoBulkAll l + Rows.uptoBulkAll r := by
  induction l with
  | nil => simp [Rows.uptoBulkAll]
  | cons x l ih => simp only [List.cons_append, Rows.uptoBulkAll, ih]; omega
theorem bulkAll_map {H : Type} {α : Type} (bulk : α → Nat) (D : Nat → DataW H) : ∀ (n : Nat) (l : List α), l.length = n → (∀ i y, l[i]? = some y → bulk y ≤ Rows.uptoBulk (D i)) → sumBulk bulk l ≤ Rows.uptoBulkAll ((List.range n).map D)
  | 0, l, hl, _ => by
    have : l = [] := List.length_eq_zero_iff.1 hl
    subst this
    simp [sumBulk]
  | n + 1, l, hl, h => by
    have hne : l ≠ [] := by
      intro e
      rw [e] at hl
      simp at hl
    obtain ⟨l0, y0, rfl⟩ : ∃ l0 y0, l = l0 ++ [y0] := ⟨l.dropLast, l.getLast hne, (List.dropLast_concat_getLast hne).symm⟩
    have hd : l0.length = n := by simpa using hl
    have ih := bulkAll_map bulk D n l0 hd (fun i y hy => h i y (by
      have hi : i < l0.length := (List.getElem?_eq_some_iff.1 hy).1
      rw [List.getElem?_append_left hi]
      exact hy))
    have hn := h n y0 (by
      rw [List.getElem?_append_right (by omega), hd]
      simp)
    rw [List.range_succ, List.map_append, bulkAll_append, sumBulk_append]
    simp only [List.map_cons, List.map_nil, sumBulk_cons, sumBulk_nil, Rows.uptoBulkAll]
    omega
theorem opens_slice {P : Program} {t e : TypeId} {α : Type} {d : Kd α} {good : α → Prop} {bulk : α → Nat} (h : P.underlying t = some (.slice e)) (hc : P.cellsOf t = 1) (he : Opens P e d good bulk) : Opens P t (Kd.slice e d) (fun l => ∀ x ∈ l, good x) (fun l => sumBulk bulk l + 1) where
  sz := hc
  one := fun l => Nat.le_add_left 1 _
  go := by
    intro H enc w base spare held fuel cs x hx
    rcases open_slice h hx with ⟨rfl, rfl⟩ | ⟨a, len, cap, m, n, D, Pl, rfl, hb, hl, hm, hmm, rfl, hi⟩
    · exact ⟨[], ⟨none, 0, rfl, Nat.le_refl _, Kd.C_nil _ _⟩, by simp, by simp [sumBulk, Rows.uptoBulk]⟩
    · have hlm : len ≤ m := by
        rw [hmm]
        split
        · exact hl
        · exact Nat.le_refl _
      obtain ⟨l, hll, hq⟩ := list_of (Q := fun i y => ∃ cs', w.cells? base (a.add (i * P.cellsOf e)) (P.cellsOf e) = some cs' ∧ d.K w y cs' ∧ good y ∧ bulk y ≤ Rows.uptoBulk (D i)) len (fun i hlt => by
        obtain ⟨cs', hcs, ht⟩ := hi i (by omega)
        obtain ⟨y, h1, h2, h3⟩ := he.go ht
        exact ⟨y, cs', hcs, h1, h2, h3⟩)
      subst hll
      refine ⟨l, ⟨some a, cap, rfl, hl, rfl, by unfold maxLen at hm; omega, fun _ => ⟨a, rfl, fun j p hj => ?_⟩⟩, fun x hx => ?_, ?_⟩
      · obtain ⟨cs', hcs, hk, _, _⟩ := hq j p hj
        obtain ⟨_, hlen, hat⟩ := World.cells?_some hcs
        rw [he.sz] at hlen hat
        refine ⟨cs', hlen, hk, fun i u hu => ?_⟩
        have hil : i < cs'.length := (List.getElem?_eq_some_iff.1 hu).1
        have := hat i (by omega)
        rw [Go.Deep.add_add] at this
        rw [this, hu]
      · obtain ⟨i, hi2⟩ := List.getElem?_of_mem hx
        obtain ⟨_, _, _, hg, _⟩ := hq i x hi2
        exact hg
      · have hbk := bulkAll_map bulk D l.length l rfl (fun i y hy => by
          obtain ⟨_, _, _, _, h5⟩ := hq i y hy
          exact h5)
        simp only [Rows.uptoBulk]
        omega
theorem opens_struct2 {P : Program} {t : TypeId} {f0 f1 : Field} {α β : Type} {d0 : Kd α} {d1 : Kd β} {g0 : α → Prop} {g1 : β → Prop} {b0 : α → Nat} {b1 : β → Nat} (ht : P.underlying t = some (.struct #[f0, f1])) (hc : P.cellsOf t = d0.sz + d1.sz)
    (ho0 : f0.offset = 0) (ho1 : f1.offset = d0.sz) (h0 : Opens P f0.type d0 g0 b0) (h1 : Opens P f1.type d1 g1 b1) : Opens P t (Kd.pair d0 d1) (fun x => g0 x.1 ∧ g1 x.2) (fun x => b0 x.1 + b1 x.2 + 1) where
  sz := hc
  one := fun l => Nat.le_add_left 1 _
  go := by
    intro H enc w base spare held fuel cs x hx
    obtain ⟨y0, y1, n, rfl, hl, e0, e1⟩ := trod_struct2 ht hx
    obtain ⟨a, k0, q0, p0⟩ := h0.go e0
    obtain ⟨b, k1, q1, p1⟩ := h1.go e1
    rw [ho0, h0.sz] at k0
    rw [ho1, h1.sz] at k1
    refine ⟨(a, b), ⟨_, _, ?_, k0, k1⟩, ⟨q0, q1⟩, ?_⟩
    · rw [List.drop_zero]
      have hd : (cs.drop d0.sz).take d1.sz = cs.drop d0.sz := List.take_of_length_le (by rw [List.length_drop]; omega)
      rw [hd, List.take_append_drop]
    · simp only [Rows.uptoBulk, Rows.uptoBulkAll]
      omega
theorem opens_struct3 {P : Program} {t : TypeId} {f0 f1 f2 : Field} {α β γ : Type} {d0 : Kd α} {d1 : Kd β} {d2 : Kd γ} {g0 : α → Prop} {g1 : β → Prop} {g2 : γ → Prop} {b0 : α → Nat} {b1 : β → Nat} {b2 : γ → Nat} (ht : P.underlying t = some (.struct #[f0, f1, f2])) (hc : P.cellsOf t = d0.sz + (d1.sz + d2.sz))
    (ho0 : f0.offset = 0) (ho1 : f1.offset = d0.sz) (ho2 : f2.offset = d0.sz + d1.sz) (h0 : Opens P f0.type d0 g0 b0) (h1 : Opens P f1.type d1 g1 b1) (h2 : Opens P f2.type d2 g2 b2) : Opens P t (Kd.pair d0 (Kd.pair d1 d2)) (fun x => g0 x.1 ∧ g1 x.2.1 ∧ g2 x.2.2) (fun x => b0 x.1 + b1 x.2.1 + b2 x.2.2 + 1) where
  sz := hc
  one := fun l => Nat.le_add_left 1 _
  go := by
    intro H enc w base spare held fuel cs x hx
    obtain ⟨y0, y1, y2, n, rfl, hl, e0, e1, e2⟩ := trod_struct3 ht hx
    obtain ⟨a, k0, q0, p0⟩ := h0.go e0
    obtain ⟨b, k1, q1, p1⟩ := h1.go e1
    obtain ⟨c, k2, q2, p2⟩ := h2.go e2
    rw [ho0, h0.sz] at k0
    rw [ho1, h1.sz] at k1
    rw [ho2, h2.sz] at k2
    refine ⟨(a, b, c), ⟨_, _, ?_, k0, _, _, rfl, k1, k2⟩, ⟨q0, q1, q2⟩, ?_⟩
    · rw [List.drop_zero]
      have hd : (cs.drop (d0.sz + d1.sz)).take d2.sz = cs.drop (d0.sz + d1.sz) := List.take_of_length_le (by rw [List.length_drop]; omega)
      rw [hd, ← List.drop_drop, List.take_append_drop, List.take_append_drop]
    · simp only [Rows.uptoBulk, Rows.uptoBulkAll]
      omega
theorem seg_join {α : Type} (cs : List α) (o n : Nat) : (cs.drop o).take n ++ cs.drop (o + n) = cs.drop o := by
  rw [← List.drop_drop, List.take_append_drop]
theorem opens_struct4 {P : Program} {t : TypeId} {f0 f1 f2 f3 : Field} {α0 α1 α2 α3 : Type} {d0 : Kd α0} {d1 : Kd α1} {d2 : Kd α2} {d3 : Kd α3} {g0 : α0 → Prop} {g1 : α1 → Prop} {g2 : α2 → Prop} {g3 : α3 → Prop} {b0 : α0 → Nat} {b1 : α1 → Nat} {b2 : α2 → Nat} {b3 : α3 → Nat} (ht : P.underlying t = some (.struct #[f0, f1, f2, f3])) (hc : P.cellsOf t = (d0.sz + (d1.sz + (d2.sz + d3.sz))))
    (ho0 : f0.offset = 0) (ho1 : f1.offset = d0.sz) (ho2 : f2.offset = d0.sz + d1.sz) (ho3 : f3.offset = d0.sz + d1.sz + d2.sz) (h0 : Opens P f0.type d0 g0 b0) (h1 : Opens P f1.type d1 g1 b1) (h2 : Opens P f2.type d2 g2 b2) (h3 : Opens P f3.type d3 g3 b3) : Opens P t (Kd.pair d0 (Kd.pair d1 (Kd.pair d2 d3))) (fun x => g0 x.1 ∧ g1 x.2.1 ∧ g2 x.2.2.1 ∧ g3 x.2.2.2) (fun x => b0 x.1 + b1 x.2.1 + b2 x.2.2.1 + b3 x.2.2.2 + 1) where
  sz := hc
  one := fun l => Nat.le_add_left 1 _
  go := by
    intro H enc w base spare held fuel cs x hx
    obtain ⟨xs, n, _, rfl, hl, hlen, hf⟩ := DataW.trod_struct ht hx
    match xs, hlen with
    | [y0, y1, y2, y3], _ =>
      obtain ⟨a0, k0, q0, p0⟩ := h0.go (show DataW.trod enc P w base spare held n f0.type ((cs.drop f0.offset).take (P.cellsOf f0.type)) = some y0 from by simpa using hf 0 f0 rfl)
      rw [ho0, h0.sz] at k0
      obtain ⟨a1, k1, q1, p1⟩ := h1.go (show DataW.trod enc P w base spare held n f1.type ((cs.drop f1.offset).take (P.cellsOf f1.type)) = some y1 from by simpa using hf 1 f1 rfl)
      rw [ho1, h1.sz] at k1
      obtain ⟨a2, k2, q2, p2⟩ := h2.go (show DataW.trod enc P w base spare held n f2.type ((cs.drop f2.offset).take (P.cellsOf f2.type)) = some y2 from by simpa using hf 2 f2 rfl)
      rw [ho2, h2.sz] at k2
      obtain ⟨a3, k3, q3, p3⟩ := h3.go (show DataW.trod enc P w base spare held n f3.type ((cs.drop f3.offset).take (P.cellsOf f3.type)) = some y3 from by simpa using hf 3 f3 rfl)
      rw [ho3, h3.sz] at k3
      refine ⟨(a0, a1, a2, a3), ⟨_, _, ?_, k0, _, _, rfl, k1, _, _, rfl, k2, k3⟩, ⟨q0, q1, q2, q3⟩, ?_⟩
      · rw [List.drop_zero]
        have hd : (cs.drop (d0.sz + d1.sz + d2.sz)).take d3.sz = cs.drop (d0.sz + d1.sz + d2.sz) := List.take_of_length_le (by rw [List.length_drop]; omega)
        rw [hd, seg_join, seg_join, List.take_append_drop]
      · simp only [List.map_cons, List.map_nil, Rows.uptoBulk, Rows.uptoBulkAll]
        omega
theorem opens_struct5 {P : Program} {t : TypeId} {f0 f1 f2 f3 f4 : Field} {α0 α1 α2 α3 α4 : Type} {d0 : Kd α0} {d1 : Kd α1} {d2 : Kd α2} {d3 : Kd α3} {d4 : Kd α4} {g0 : α0 → Prop} {g1 : α1 → Prop} {g2 : α2 → Prop} {g3 : α3 → Prop} {g4 : α4 → Prop} {b0 : α0 → Nat} {b1 : α1 → Nat} {b2 : α2 → Nat} {b3 : α3 → Nat} {b4 : α4 → Nat} (ht : P.underlying t = some (.struct #[f0, f1, f2, f3, f4])) (hc : P.cellsOf t = (d0.sz + (d1.sz + (d2.sz + (d3.sz + d4.sz)))))
    (ho0 : f0.offset = 0) (ho1 : f1.offset = d0.sz) (ho2 : f2.offset = d0.sz + d1.sz) (ho3 : f3.offset = d0.sz + d1.sz + d2.sz) (ho4 : f4.offset = d0.sz + d1.sz + d2.sz + d3.sz) (h0 : Opens P f0.type d0 g0 b0) (h1 : Opens P f1.type d1 g1 b1) (h2 : Opens P f2.type d2 g2 b2) (h3 : Opens P f3.type d3 g3 b3) (h4 : Opens P f4.type d4 g4 b4) : Opens P t (Kd.pair d0 (Kd.pair d1 (Kd.pair d2 (Kd.pair d3 d4)))) (fun x => g0 x.1 ∧ g1 x.2.1 ∧ g2 x.2.2.1 ∧ g3 x.2.2.2.1 ∧ g4 x.2.2.2.2) (fun x => b0 x.1 + b1 x.2.1 + b2 x.2.2.1 + b3 x.2.2.2.1 + b4 x.2.2.2.2 + 1) where
  sz := hc
  one := fun l => Nat.le_add_left 1 _
  go := by
    intro H enc w base spare held fuel cs x hx
    obtain ⟨xs, n, _, rfl, hl, hlen, hf⟩ := DataW.trod_struct ht hx
    match xs, hlen with
    | [y0, y1, y2, y3, y4], _ =>
      obtain ⟨a0, k0, q0, p0⟩ := h0.go (show DataW.trod enc P w base spare held n f0.type ((cs.drop f0.offset).take (P.cellsOf f0.type)) = some y0 from by simpa using hf 0 f0 rfl)
      rw [ho0, h0.sz] at k0
      obtain ⟨a1, k1, q1, p1⟩ := h1.go (show DataW.trod enc P w base spare held n f1.type ((cs.drop f1.offset).take (P.cellsOf f1.type)) = some y1 from by simpa using hf 1 f1 rfl)
      rw [ho1, h1.sz] at k1
      obtain ⟨a2, k2, q2, p2⟩ := h2.go (show DataW.trod enc P w base spare held n f2.type ((cs.drop f2.offset).take (P.cellsOf f2.type)) = some y2 from by simpa using hf 2 f2 rfl)
      rw [ho2, h2.sz] at k2
      obtain ⟨a3, k3, q3, p3⟩ := h3.go (show DataW.trod enc P w base spare held n f3.type ((cs.drop f3.offset).take (P.cellsOf f3.type)) = some y3 from by simpa using hf 3 f3 rfl)
      rw [ho3, h3.sz] at k3
      obtain ⟨a4, k4, q4, p4⟩ := h4.go (show DataW.trod enc P w base spare held n f4.type ((cs.drop f4.offset).take (P.cellsOf f4.type)) = some y4 from by simpa using hf 4 f4 rfl)
      rw [ho4, h4.sz] at k4
      refine ⟨(a0, a1, a2, a3, a4), ⟨_, _, ?_, k0, _, _, rfl, k1, _, _, rfl, k2, _, _, rfl, k3, k4⟩, ⟨q0, q1, q2, q3, q4⟩, ?_⟩
      · rw [List.drop_zero]
        have hd : (cs.drop (d0.sz + d1.sz + d2.sz + d3.sz)).take d4.sz = cs.drop (d0.sz + d1.sz + d2.sz + d3.sz) := List.take_of_length_le (by rw [List.length_drop]; omega)
        rw [hd, seg_join, seg_join, seg_join, List.take_append_drop]
      · simp only [List.map_cons, List.map_nil, Rows.uptoBulk, Rows.uptoBulkAll]
        omega
theorem opens_struct6 {P : Program} {t : TypeId} {f0 f1 f2 f3 f4 f5 : Field} {α0 α1 α2 α3 α4 α5 : Type} {d0 : Kd α0} {d1 : Kd α1} {d2 : Kd α2} {d3 : Kd α3} {d4 : Kd α4} {d5 : Kd α5} {g0 : α0 → Prop} {g1 : α1 → Prop} {g2 : α2 → Prop} {g3 : α3 → Prop} {g4 : α4 → Prop} {g5 : α5 → Prop} {b0 : α0 → Nat} {b1 : α1 → Nat} {b2 : α2 → Nat} {b3 : α3 → Nat} {b4 : α4 → Nat} {b5 : α5 → Nat} (ht : P.underlying t = some (.struct #[f0, f1, f2, f3, f4, f5])) (hc : P.cellsOf t = (d0.sz + (d1.sz + (d2.sz + (d3.sz + (d4.sz + d5.sz))))))
    (ho0 : f0.offset = 0) (ho1 : f1.offset = d0.sz) (ho2 : f2.offset = d0.sz + d1.sz) (ho3 : f3.offset = d0.sz + d1.sz + d2.sz) (ho4 : f4.offset = d0.sz + d1.sz + d2.sz + d3.sz) (ho5 : f5.offset = d0.sz + d1.sz + d2.sz + d3.sz + d4.sz) (h0 : Opens P f0.type d0 g0 b0) (h1 : Opens P f1.type d1 g1 b1) (h2 : Opens P f2.type d2 g2 b2) (h3 : Opens P f3.type d3 g3 b3) (h4 : Opens P f4.type d4 g4 b4) (h5 : Opens P f5.type d5 g5 b5) : Opens P t (Kd.pair d0 (Kd.pair d1 (Kd.pair d2 (Kd.pair d3 (Kd.pair d4 d5))))) (fun x => g0 x.1 ∧ g1 x.2.1 ∧ g2 x.2.2.1 ∧ g3 x.2.2.2.1 ∧ g4 x.2.2.2.2.1 ∧ g5 x.2.2.2.2.2) (fun x => b0 x.1 + b1 x.2.1 + b2 x.2.2.1 + b3 x.2.2.2.1 + b4 x.2.2.2.2.1 + b5 x.2.2.2.2.2 + 1) where
  sz := hc
  one := fun l => Nat.le_add_left 1 _
  go := by
    intro H enc w base spare held fuel cs x hx
    obtain ⟨xs, n, _, rfl, hl, hlen, hf⟩ := DataW.trod_struct ht hx
    match xs, hlen with
    | [y0, y1, y2, y3, y4, y5], _ =>
      obtain ⟨a0, k0, q0, p0⟩ := h0.go (show DataW.trod enc P w base spare held n f0.type ((cs.drop f0.offset).take (P.cellsOf f0.type)) = some y0 from by simpa using hf 0 f0 rfl)
      rw [ho0, h0.sz] at k0
      obtain ⟨a1, k1, q1, p1⟩ := h1.go (show DataW.trod enc P w base spare held n f1.type ((cs.drop f1.offset).take (P.cellsOf f1.type)) = some y1 from by simpa using hf 1 f1 rfl)
      rw [ho1, h1.sz] at k1
      obtain ⟨a2, k2, q2, p2⟩ := h2.go (show DataW.trod enc P w base spare held n f2.type ((cs.drop f2.offset).take (P.cellsOf f2.type)) = some y2 from by simpa using hf 2 f2 rfl)
      rw [ho2, h2.sz] at k2
      obtain ⟨a3, k3, q3, p3⟩ := h3.go (show DataW.trod enc P w base spare held n f3.type ((cs.drop f3.offset).take (P.cellsOf f3.type)) = some y3 from by simpa using hf 3 f3 rfl)
      rw [ho3, h3.sz] at k3
      obtain ⟨a4, k4, q4, p4⟩ := h4.go (show DataW.trod enc P w base spare held n f4.type ((cs.drop f4.offset).take (P.cellsOf f4.type)) = some y4 from by simpa using hf 4 f4 rfl)
      rw [ho4, h4.sz] at k4
      obtain ⟨a5, k5, q5, p5⟩ := h5.go (show DataW.trod enc P w base spare held n f5.type ((cs.drop f5.offset).take (P.cellsOf f5.type)) = some y5 from by simpa using hf 5 f5 rfl)
      rw [ho5, h5.sz] at k5
      refine ⟨(a0, a1, a2, a3, a4, a5), ⟨_, _, ?_, k0, _, _, rfl, k1, _, _, rfl, k2, _, _, rfl, k3, _, _, rfl, k4, k5⟩, ⟨q0, q1, q2, q3, q4, q5⟩, ?_⟩
      · rw [List.drop_zero]
        have hd : (cs.drop (d0.sz + d1.sz + d2.sz + d3.sz + d4.sz)).take d5.sz = cs.drop (d0.sz + d1.sz + d2.sz + d3.sz + d4.sz) := List.take_of_length_le (by rw [List.length_drop]; omega)
        rw [hd, seg_join, seg_join, seg_join, seg_join, List.take_append_drop]
      · simp only [List.map_cons, List.map_nil, Rows.uptoBulk, Rows.uptoBulkAll]
        omega
theorem opens_struct7 {P : Program} {t : TypeId} {f0 f1 f2 f3 f4 f5 f6 : Field} {α0 α1 α2 α3 α4 α5 α6 : Type} {d0 : Kd α0} {d1 : Kd α1} {d2 : Kd α2} {d3 : Kd α3} {d4 : Kd α4} {d5 : Kd α5} {d6 : Kd α6} {g0 : α0 → Prop} {g1 : α1 → Prop} {g2 : α2 → Prop} {g3 : α3 → Prop} {g4 : α4 → Prop} {g5 : α5 → Prop} {g6 : α6 → Prop} {b0 : α0 → Nat} {b1 : α1 → Nat} {b2 : α2 → Nat} {b3 : α3 → Nat} {b4 : α4 → Nat} {b5 : α5 → Nat} {b6 : α6 → Nat} (ht : P.underlying t = some (.struct #[f0, f1, f2, f3, f4, f5, f6])) (hc : P.cellsOf t = (d0.sz + (d1.sz + (d2.sz + (d3.sz + (d4.sz + (d5.sz + d6.sz)))))))
    (ho0 : f0.offset = 0) (ho1 : f1.offset = d0.sz) (ho2 : f2.offset = d0.sz + d1.sz) (ho3 : f3.offset = d0.sz + d1.sz + d2.sz) (ho4 : f4.offset = d0.sz + d1.sz + d2.sz + d3.sz) (ho5 : f5.offset = d0.sz + d1.sz + d2.sz + d3.sz + d4.sz) (ho6 : f6.offset = d0.sz + d1.sz + d2.sz + d3.sz + d4.sz + d5.sz) (h0 : Opens P f0.type d0 g0 b0) (h1 : Opens P f1.type d1 g1 b1) (h2 : Opens P f2.type d2 g2 b2) (h3 : Opens P f3.type d3 g3 b3) (h4 : Opens P f4.type d4 g4 b4) (h5 : Opens P f5.type d5 g5 b5) (h6 : Opens P f6.type d6 g6 b6) : Opens P t (Kd.pair d0 (Kd.pair d1 (Kd.pair d2 (Kd.pair d3 (Kd.pair d4 (Kd.pair d5 d6)))))) (fun x => g0 x.1 ∧ g1 x.2.1 ∧ g2 x.2.2.1 ∧ g3 x.2.2.2.1 ∧ g4 x.2.2.2.2.1 ∧ g5 x.2.2.2.2.2.1 ∧ g6 x.2.2.2.2.2.2) (fun x => b0 x.1 + b1 x.2.1 + b2 x.2.2.1 + b3 x.2.2.2.1 + b4 x.2.2.2.2.1 + b5 x.2.2.2.2.2.1 + b6 x.2.2.2.2.2.2 + 1) where
  sz := hc
  one := fun l => Nat.le_add_left 1 _
  go := by
    intro H enc w base spare held fuel cs x hx
    obtain ⟨xs, n, _, rfl, hl, hlen, hf⟩ := DataW.trod_struct ht hx
    match xs, hlen with
    | [y0, y1, y2, y3, y4, y5, y6], _ =>
      obtain ⟨a0, k0, q0, p0⟩ := h0.go (show DataW.trod enc P w base spare held n f0.type ((cs.drop f0.offset).take (P.cellsOf f0.type)) = some y0 from by simpa using hf 0 f0 rfl)
      rw [ho0, h0.sz] at k0
      obtain ⟨a1, k1, q1, p1⟩ := h1.go (show DataW.trod enc P w base spare held n f1.type ((cs.drop f1.offset).take (P.cellsOf f1.type)) = some y1 from by simpa using hf 1 f1 rfl)
      rw [ho1, h1.sz] at k1
      obtain ⟨a2, k2, q2, p2⟩ := h2.go (show DataW.trod enc P w base spare held n f2.type ((cs.drop f2.offset).take (P.cellsOf f2.type)) = some y2 from by simpa using hf 2 f2 rfl)
      rw [ho2, h2.sz] at k2
      obtain ⟨a3, k3, q3, p3⟩ := h3.go (show DataW.trod enc P w base spare held n f3.type ((cs.drop f3.offset).take (P.cellsOf f3.type)) = some y3 from by simpa using hf 3 f3 rfl)
      rw [ho3, h3.sz] at k3
      obtain ⟨a4, k4, q4, p4⟩ := h4.go (show DataW.trod enc P w base spare held n f4.type ((cs.drop f4.offset).take (P.cellsOf f4.type)) = some y4 from by simpa using hf 4 f4 rfl)
      rw [ho4, h4.sz] at k4
      obtain ⟨a5, k5, q5, p5⟩ := h5.go (show DataW.trod enc P w base spare held n f5.type ((cs.drop f5.offset).take (P.cellsOf f5.type)) = some y5 from by simpa using hf 5 f5 rfl)
      rw [ho5, h5.sz] at k5
      obtain ⟨a6, k6, q6, p6⟩ := h6.go (show DataW.trod enc P w base spare held n f6.type ((cs.drop f6.offset).take (P.cellsOf f6.type)) = some y6 from by simpa using hf 6 f6 rfl)
      rw [ho6, h6.sz] at k6
      refine ⟨(a0, a1, a2, a3, a4, a5, a6), ⟨_, _, ?_, k0, _, _, rfl, k1, _, _, rfl, k2, _, _, rfl, k3, _, _, rfl, k4, _, _, rfl, k5, k6⟩, ⟨q0, q1, q2, q3, q4, q5, q6⟩, ?_⟩
      · rw [List.drop_zero]
        have hd : (cs.drop (d0.sz + d1.sz + d2.sz + d3.sz + d4.sz + d5.sz)).take d6.sz = cs.drop (d0.sz + d1.sz + d2.sz + d3.sz + d4.sz + d5.sz) := List.take_of_length_le (by rw [List.length_drop]; omega)
        rw [hd, seg_join, seg_join, seg_join, seg_join, seg_join, List.take_append_drop]
      · simp only [List.map_cons, List.map_nil, Rows.uptoBulk, Rows.uptoBulkAll]
        omega
/-- a kind that is told by a structure of its own -/
theorem opens_iso {P : Program} {t : TypeId} {α β : Type} {d : Kd α} {good : α → Prop} {bulk : α → Nat} (h : Opens P t d good bulk) (f : β → α) (g : α → β) (hfg : ∀ a, f (g a) = a) : Opens P t (Kd.iso d f) (fun x => good (f x)) (fun x => bulk (f x)) where
  sz := h.sz
  one := fun x => h.one (f x)
  go := by
    intro H enc w base spare held fuel cs x hx
    obtain ⟨a, k, q, p⟩ := h.go hx
    refine ⟨g a, ?_, ?_, ?_⟩
    · show d.K w (f (g a)) cs
      rw [hfg]; exact k
    · rw [hfg]; exact q
    · rw [hfg]; exact p
/-- an argument's bulk, of the whole's -/
theorem bulk_bound {H : Type} {ds : List (DataW H)} (hk : Rows.uptoSmall H ds = true) : Rows.uptoBulkAll ds ≤ 1048576 := of_decide_eq_true hk

end Go.Proofs.Ytehfcafmdnfamaa.G
