/- Contracts of functions and plain laws, several texts of the session put together by its program. -/
import Derived.Test.YtppldgbgdgeegaaProg
import Derived.Below
import Derived.Deep.Draws
import Derived.Deep.AppendLies
import Derived.Maps.AppendAt
import Derived.OwnWalk
import Derived.Laws.BytesArg
import Derived.Laws.MakeOwn
import Derived.Laws.OwnMore
import Derived.Deep.OwnRows
import Derived.Tactics
import Derived.Lib.ConvBytes
import Derived.Laws.Slices
import Derived.WalkKit
import Derived.KernelRfl
import Derived.RowKit3
import Derived.Deep.LoopGhost
import Derived.Deep.QuietTactic
import Derived.BigQuiet
import Derived.WideLaws
import Derived.Deep.DeepCutAuto
import Derived.Deep.CutBlock
import Derived.Deep.RegionHeld3
import Derived.Laws.Rows
import Derived.Lib.AppendStr
import Derived.ArgAppend
import Derived.Laws.IdiomCopy
import Derived.OrdersHeld
import Derived.Laws.BitsLemmas
import Derived.RowKit
import Derived.Test.YtppldgbgdgeegaaWWords
import Derived.Test.YtppldgbgdgeegaaWLast
import Derived.Test.YtppldgbgdgeegaaWTab
import Derived.Test.YtppldgbgdgeegaaWFour
import Derived.Test.YtppldgbgdgeegaaWQPut
import Derived.Test.YtppldgbgdgeegaaWApart
import Derived.Test.YtppldgbgdgeegaaWArr
import Derived.Test.YtppldgbgdgeegaaWZeros
import Derived.Test.YtppldgbgdgeegaaWFoot
import Derived.Test.YtppldgbgdgeegaaWKept
import Derived.Test.YtppldgbgdgeegaaWShare
import Derived.Test.YtppldgbgdgeegaaWN
import Derived.Test.YtppldgbgdgeegaaWFootNe
import Derived.Test.YtppldgbgdgeegaaWAt
import Derived.Test.YtppldgbgdgeegaaWEqStruct
import Derived.Test.YtppldgbgdgeegaaWRepsOne
import Derived.Test.YtppldgbgdgeegaaWInv
import Derived.Test.YtppldgbgdgeegaaWInvWords
import Derived.Test.YtppldgbgdgeegaaWGuard
import Derived.Test.YtppldgbgdgeegaaWNEv
import Derived.Test.YtppldgbgdgeegaaWMore
import Derived.Test.YtppldgbgdgeegaaQ2
import Derived.Test.YtppldgbgdgeegaaRows
import Derived.Deep.Slices
import Derived.Deep.Fields
import Derived.ChangeSame
import Derived.Deep.Strs
import Derived.Lib.SmallJoins
import Derived.Carry

/- Contracts typed by hand: edits in memory: the contracts of chapter 15's law, told for letters -/
namespace Go.Proofs.Ytppldgbgdgeegaa.G
open Go.RowKit Go.Proofs.YtppldgbgdgeegaaW.PrintWords Go.Proofs.YtppldgbgdgeegaaW.PrintLast Go.Proofs.YtppldgbgdgeegaaW.PrintMore
attribute [local go_sem] max2_int min2_int max_two min_two max_three min_three max_four min_four
set_option linter.unusedVariables false
set_option linter.unusedSimpArgs false

/-! edits in memory: the contracts of chapter 15's law, told for letters -/
open Go.WideMaps Go.WideElems
structure EdR (W : World) (base : Nat) (v3 v4 : Value) (g : List S45) (c : List S43) : Prop where
  r3 : Kd.R k45 45 W base (fun _ => True) v3 g
  r4 : Kd.R k43 43 W base (fun _ => True) v4 c
def ApartV (u3 u4 v3 v4 : Value) : Prop := ∀ k, (u3.ownBlock = some k ∨ u4.ownBlock = some k) → (v3.ownBlock = some k ∨ v4.ownBlock = some k) → False
theorem ApartV.symm {u3 u4 v3 v4 : Value} (h : ApartV u3 u4 v3 v4) : ApartV v3 v4 u3 u4 := fun k a b => h k b a
section
variable {W W2 : World} {base : Nat} {u3 u4 v3 v4 : Value} {g g2 : List S45} {c c2 : List S43}
theorem EdR.below (h : EdR W base v3 v4 g c) (hb : Below W.heap.size W W2) : EdR W2 base v3 v4 g c := ⟨Kd.R_below h.r3 hb, Kd.R_below h.r4 hb⟩
theorem EdR.lower {b : Nat} (h : EdR W base v3 v4 g c) (hb : b ≤ base) : EdR W b v3 v4 g c := ⟨Kd.R_lower h.r3 hb, Kd.R_lower h.r4 hb⟩
theorem EdR.lt (h : EdR W base v3 v4 g c) : ∀ k, (v3.ownBlock = some k ∨ v4.ownBlock = some k) → k < W.heap.size := fun k hk => hk.elim (Kd.R_lt h.r3 k) (Kd.R_lt h.r4 k)
theorem EdR.le (h : EdR W base v3 v4 g c) : ∀ k, (v3.ownBlock = some k ∨ v4.ownBlock = some k) → base ≤ k := fun k hk => hk.elim (fun e => ((Kd.R_bound h.r3).1 k e).2.1) (fun e => ((Kd.R_bound h.r4).1 k e).2.1)
theorem EdR.apart (hu : EdR W base u3 u4 g c) (hv : EdR W2 W.heap.size v3 v4 g2 c2) : ApartV u3 u4 v3 v4 := fun k a b => by
  have h1 := hu.lt k a
  have h2 := hv.le k b
  omega
theorem EdR.kept (h : EdR W base u3 u4 g c) (hk : Kept W W2 (fun k => some k = v3.ownBlock ∨ some k = v4.ownBlock)) (ha : ApartV u3 u4 v3 v4) : EdR W2 base u3 u4 g c :=
  ⟨Kd.R_mono (Kd.R_kept (ok := fun k => u3.ownBlock = some k) ⟨fun k e => e, h.r3.2⟩ hk (fun k e hs => ha k (Or.inl e) (hs.imp Eq.symm Eq.symm))) (fun _ _ => trivial),
    Kd.R_mono (Kd.R_kept (ok := fun k => u4.ownBlock = some k) ⟨fun k e => e, h.r4.2⟩ hk (fun k e hs => ha k (Or.inr e) (hs.imp Eq.symm Eq.symm))) (fun _ _ => trivial)⟩
theorem EdR.box (h : EdR W base v3 v4 g c) {b : Nat} {cs : Array Value} (hb : W.heap[b]? = some (.cells cs 31 (0, 0))) (hk : Kept W W2 (fun k => some k = v3.ownBlock ∨ some k = v4.ownBlock)) : W2.heap[b]? = some (.cells cs 31 (0, 0)) :=
  blk_kept hb hk (fun hs => hs.elim (Kd.R_ne h.r3 hb (by decide)) (Kd.R_ne h.r4 hb (by decide)))
theorem EdR.told (h : EdR W base v3 v4 g c) {b : Nat} {cs : Array Value} (hb : W.heap[b]? = some (.cells cs 31 (0, 0))) (x0 x1 x2 : Int) (w3 w4 : Value) : EdR (toldW W b x0 x1 x2 w3 w4) base v3 v4 g c :=
  ⟨Kd.R_grown2 h.r3 rfl (toldW_grown b) (fun k hk => by cases hk; exact Kd.R_ne h.r3 hb (by decide)), Kd.R_grown2 h.r4 rfl (toldW_grown b) (fun k hk => by cases hk; exact Kd.R_ne h.r4 hb (by decide))⟩
theorem told_far {b k : Nat} {o : Obj} (h : W.heap[k]? = some o) (hne : k ≠ b) (x0 x1 x2 : Int) (w3 w4 : Value) : (toldW W b x0 x1 x2 w3 w4).heap[k]? = some o := ((toldW_grown b).block k (blk_lt h) (by simpa using hne)).trans h
theorem told_below {w : World} {b : Nat} (h : Below w.heap.size w W) (hb : w.heap.size ≤ b) (x0 x1 x2 : Int) (w3 w4 : Value) : Below w.heap.size w (toldW W b x0 x1 x2 w3 w4) := h.grown (toldW_grown b) h.size (fun k e => by cases e; exact hb)
end
theorem lent15 (a0 a1 a2 : Int) (A3 : Option Addr) (c3 : Nat) (g : List S45) (A4 : Option Addr) (c4 : Nat) (c : List S43) (n m : Nat) (hn : g.length = n) (hm : c.length = m) (hbn : n ≤ 8000000) (hbm : m ≤ 8000000) (w : World) (h3 : Kd.C k45 w A3 n g) (hc3 : n ≤ c3) (h4 : Kd.C k43 w A4 m c) (hc4 : m ≤ c4) :
    Calls Try.prog 10 #[.agg (cE a0 a1 a2 (.slice A3 n c3) (.slice A4 m c4))] w fun e w' => ∃ X3 x3 X4 x4, e = .returned (.agg (cE a0 a1 a2 (.slice X3 n x3) (.slice X4 m x4))) ∧ EdR w' w.heap.size (.slice X3 n x3) (.slice X4 m x4) g c ∧ Below w.heap.size w w' := by
  subst hn hm
  refine (morainelaw15_lent.calls a0 a1 a2 A3 c3 g A4 c4 c _ _ _ _ _ w h3 hc3 h4 hc4 (lent_eq a0 a1 a2 g c hbn hbm)).mono ?_
  rintro e w' ⟨v3, v4, rfl, r3, r4, hb⟩
  obtain ⟨X3, x3, rfl, _, _⟩ := Kd.R_reads r3
  obtain ⟨X4, x4, rfl, _, _⟩ := Kd.R_reads r4
  exact ⟨X3, x3, X4, x4, rfl, ⟨r3, r4⟩, hb⟩
theorem merge15 (a0 a1 a2 : Int) (A3 : Option Addr) (c3 : Nat) (aG : List S45) (A4 : Option Addr) (c4 : Nat) (aC : List S43) (b0 b1 b2 : Int) (B3 : Option Addr) (d3 : Nat) (bG : List S45) (B4 : Option Addr) (d4 : Nat) (bC : List S43) (n m p q rn rm : Nat) (hn : aG.length = n) (hm : aC.length = m) (hp : bG.length = p) (hq : bC.length = q) (hrn : (mG aG aC bG).length = rn) (hrm : (mC aC bC bG).length = rm) (hl : n ≤ 3145728 ∧ m ≤ 3145728 ∧ p ≤ 3145728 ∧ q ≤ 3145728)
    (hwa : ∀ x ∈ aC, WfP (plC x)) (hwb : ∀ x ∈ bG, WfP (plG x)) (w : World) (h3 : Kd.C k45 w A3 n aG) (hc3 : n ≤ c3) (h4 : Kd.C k43 w A4 m aC) (hc4 : m ≤ c4) (g3 : Kd.C k45 w B3 p bG) (gc3 : p ≤ d3) (g4 : Kd.C k43 w B4 q bC) (gc4 : q ≤ d4) :
    Calls Try.prog 11 #[.agg (cE a0 a1 a2 (.slice A3 n c3) (.slice A4 m c4)), .agg (cE b0 b1 b2 (.slice B3 p d3) (.slice B4 q d4))] w fun e w' => ∃ X3 x3 X4 x4, e = .returned (.agg (cE (mN a0 b0) (mN a1 b1) (mN a2 b2) (.slice X3 rn x3) (.slice X4 rm x4))) ∧ EdR w' w.heap.size (.slice X3 rn x3) (.slice X4 rm x4) (mG aG aC bG) (mC aC bC bG) ∧ Below w.heap.size w w' := by
  subst hn hm hp hq hrn hrm
  refine (Merge_calls a0 a1 a2 A3 c3 aG A4 c4 aC b0 b1 b2 B3 d3 bG B4 d4 bC w h3 hc3 h4 hc4 g3 gc3 g4 gc4 hwa hwb hl).mono ?_
  rintro e w' ⟨v3, v4, rfl, r3, r4, hb⟩
  obtain ⟨X3, x3, rfl, _, _⟩ := Kd.R_reads r3
  obtain ⟨X4, x4, rfl, _, _⟩ := Kd.R_reads r4
  exact ⟨X3, x3, X4, x4, rfl, ⟨r3, r4⟩, hb⟩
theorem ref15 (a0 a1 a2 : Int) (A3 : Option Addr) (c3 : Nat) (aG : List S45) (A4 : Option Addr) (c4 : Nat) (aC : List S43) (b0 b1 b2 : Int) (B3 : Option Addr) (d3 : Nat) (bG : List S45) (B4 : Option Addr) (d4 : Nat) (bC : List S43) (n m p q rn rm : Nat) (hn : aG.length = n) (hm : aC.length = m) (hp : bG.length = p) (hq : bC.length = q) (hrn : (mG aG aC bG).length = rn) (hrm : (mC aC bC bG).length = rm) (hl : n ≤ 3145728 ∧ m ≤ 3145728 ∧ p ≤ 3145728 ∧ q ≤ 3145728)
    (w : World) (h3 : Kd.C k45 w A3 n aG) (hc3 : n ≤ c3) (h4 : Kd.C k43 w A4 m aC) (hc4 : m ≤ c4) (g3 : Kd.C k45 w B3 p bG) (gc3 : p ≤ d3) (g4 : Kd.C k43 w B4 q bC) (gc4 : q ≤ d4) :
    Calls Try.prog 12 #[.agg (cE a0 a1 a2 (.slice A3 n c3) (.slice A4 m c4)), .agg (cE b0 b1 b2 (.slice B3 p d3) (.slice B4 q d4))] w fun e w' => ∃ X3 x3 X4 x4, e = .returned (.agg (cE (mN a0 b0) (mN a1 b1) (mN a2 b2) (.slice X3 rn x3) (.slice X4 rm x4))) ∧ EdR w' w.heap.size (.slice X3 rn x3) (.slice X4 rm x4) (mG aG aC bG) (mC aC bC bG) ∧ Below w.heap.size w w' := by
  subst hn hm hp hq hrn hrm
  refine (moraineref15_Merge.calls 13000000 a0 a1 a2 A3 c3 aG A4 c4 aC b0 b1 b2 B3 d3 bG B4 d4 bC _ _ _ _ _ w h3 hc3 h4 hc4 g3 gc3 g4 gc4 (merge_eq a0 a1 a2 aG aC b0 b1 b2 bG bC hl 13000000 (Nat.le_refl _))).mono ?_
  rintro e w' ⟨v3, v4, rfl, r3, r4, hb⟩
  obtain ⟨X3, x3, rfl, _, _⟩ := Kd.R_reads r3
  obtain ⟨X4, x4, rfl, _, _⟩ := Kd.R_reads r4
  exact ⟨X3, x3, X4, x4, rfl, ⟨r3, r4⟩, hb⟩
theorem same15 (a0 a1 a2 : Int) (A3 : Option Addr) (c3 : Nat) (g : List S45) (A4 : Option Addr) (c4 : Nat) (c : List S43) (B3 : Option Addr) (d3 : Nat) (B4 : Option Addr) (d4 : Nat) (n m : Nat) (hn : g.length = n) (hm : c.length = m) (hbn : n ≤ 8000000) (hbm : m ≤ 8000000) (w : World) (h3 : Kd.C k45 w A3 n g) (hc3 : n ≤ c3) (h4 : Kd.C k43 w A4 m c) (hc4 : m ≤ c4) (g3 : Kd.C k45 w B3 n g) (gc3 : n ≤ d3) (g4 : Kd.C k43 w B4 m c) (gc4 : m ≤ d4) :
    Calls Try.prog 8 #[.agg (cE a0 a1 a2 (.slice A3 n c3) (.slice A4 m c4)), .agg (cE a0 a1 a2 (.slice B3 n d3) (.slice B4 m d4))] w fun e w' => e = .returned (.bool true) ∧ Below w.heap.size w w' := by
  subst hn hm
  exact morainelaw15_same.calls 16000010 a0 a1 a2 A3 c3 g A4 c4 c a0 a1 a2 B3 d3 g B4 d4 c true w h3 hc3 h4 hc4 g3 gc3 g4 gc4 (same_eq a0 a1 a2 g c hbn hbm 16000010 (Nat.le_refl _))
theorem spoil15 (a0 a1 a2 : Int) (g : List S45) (c : List S43) (v3 v4 : Value) (hbn : g.length ≤ 8000000) (hbm : c.length ≤ 8000000) (w0 w : World) (hB : Below w0.heap.size w0 w) (h : EdR w w0.heap.size v3 v4 g c) :
    Calls Try.prog 9 #[.agg (cE a0 a1 a2 v3 v4)] w fun e w' => e = .returned (.tuple #[]) ∧ Below w0.heap.size w0 w' ∧ Kept w w' (fun k => some k = v3.ownBlock ∨ some k = v4.ownBlock) := by
  obtain ⟨r1, r2, hf⟩ := spoil_eq a0 a1 a2 g c hbn hbm
  refine (morainelaw15_spoil.calls 16000010 a0 a1 a2 (fun k => some k = v3.ownBlock) v3 g (fun k => some k = v4.ownBlock) v4 c r1 r2 w0 w hB ⟨fun k e => e.symm, h.r3.2⟩ ⟨fun k e => e.symm, h.r4.2⟩ hf).mono ?_
  rintro e w' ⟨rfl, _, _, hb, hk⟩
  exact ⟨rfl, hb, hk⟩
/-- the row of an edit reads -/
theorem EdR.c3 {W : World} {base : Nat} {A3 A4 : Option Addr} {n m x3 x4 : Nat} {g : List S45} {c : List S43} (h : EdR W base (.slice A3 n x3) (.slice A4 m x4) g c) : Kd.C k45 W A3 n g ∧ n ≤ x3 := by
  obtain ⟨e, h1, h2⟩ := Kd.R_reads' h.r3
  rw [← e] at h2
  exact ⟨h2, h1⟩
theorem EdR.c4 {W : World} {base : Nat} {A3 A4 : Option Addr} {n m x3 x4 : Nat} {g : List S45} {c : List S43} (h : EdR W base (.slice A3 n x3) (.slice A4 m x4) g c) : Kd.C k43 W A4 m c ∧ m ≤ x4 := by
  obtain ⟨e, h1, h2⟩ := Kd.R_reads' h.r4
  rw [← e] at h2
  exact ⟨h2, h1⟩

end Go.Proofs.Ytppldgbgdgeegaa.G

/- Contracts typed by hand: an argument that can be read is of its kind: from the form's reading to the words of the walks -/
namespace Go.Proofs.Ytppldgbgdgeegaa.G
open Go.RowKit Go.Proofs.YtppldgbgdgeegaaW.PrintWords Go.Proofs.YtppldgbgdgeegaaW.PrintLast Go.Proofs.YtppldgbgdgeegaaW.PrintMore
attribute [local go_sem] max2_int min2_int max_two min_two max_three min_three max_four min_four
set_option linter.unusedVariables false
set_option linter.unusedSimpArgs false

/-! an argument that can be read is of its kind: from the form's reading to the words of the walks -/
open Go.ChangeShapes Go.WideShapes Go.Deep
structure Opens (P : Program) (t : TypeId) {α : Type} (d : Kd α) (good : α → Prop) (bulk : α → Nat) : Prop where
  sz : P.cellsOf t = d.sz
  one : ∀ x, 1 ≤ bulk x
  go : ∀ {H : Type} {enc : TypeId × Value → H} {w : World} {base : Nat} {spare : Nat → Bool} {held : Bool} {fuel : Nat} {cs : List Value} {x : DataW H × List MemPlace}, DataW.trod enc P w base spare held fuel t cs = some x → ∃ a : α, d.K w a cs ∧ good a ∧ bulk a ≤ Rows.uptoBulk x.1
theorem opens_int {P : Program} {t : TypeId} {k : IntKind} (h : P.underlying t = some (.int k)) (hc : P.cellsOf t = 1) : Opens P t (Kd.int k) (fun n => (Lit.int k n).wf = true) (fun _ => 1) where
  sz := hc
  one := fun _ => Nat.le_refl 1
  go := by
    intro H enc w base spare held fuel cs x hx
    obtain ⟨n, rfl, rfl, hw⟩ := DataW.trod_int h hx
    exact ⟨n, rfl, hw, by simp [Rows.uptoBulk]⟩
theorem opens_bool {P : Program} {t : TypeId} (h : P.underlying t = some .bool) (hc : P.cellsOf t = 1) : Opens P t Kd.bool (fun _ => True) (fun _ => 1) where
  sz := hc
  one := fun _ => Nat.le_refl 1
  go := by
    intro H enc w base spare held fuel cs x hx
    obtain ⟨n, rfl, rfl⟩ := DataW.trod_bool h hx
    exact ⟨n, rfl, trivial, by simp [Rows.uptoBulk]⟩
theorem opens_string {P : Program} {t : TypeId} (h : P.underlying t = some .string) (hc : P.cellsOf t = 1) : Opens P t Kd.string (fun s => s.size ≤ maxLen) (fun s => s.size + 1) where
  sz := hc
  one := fun s => Nat.le_add_left 1 s.size
  go := by
    intro H enc w base spare held fuel cs x hx
    obtain ⟨s, rfl, rfl, hw⟩ := DataW.trod_string h hx
    exact ⟨s, rfl, hw, by simp [Rows.uptoBulk]⟩
def sumBulk {α : Type} (bulk : α → Nat) (l : List α) : Nat := (l.map bulk).sum
theorem sumBulk_nil {α : Type} (bulk : α → Nat) : sumBulk bulk [] = 0 := rfl
theorem sumBulk_cons {α : Type} (bulk : α → Nat) (x : α) (l : List α) : sumBulk bulk (x :: l) = bulk x + sumBulk bulk l := by simp [sumBulk]
theorem sumBulk_append {α : Type} (bulk : α → Nat) (l r : List α) : sumBulk bulk (l ++ r) = sumBulk bulk l + sumBulk bulk r := by simp [sumBulk, List.sum_append]
theorem sumBulk_mem {α : Type} (bulk : α → Nat) {x : α} {l : List α} (h : x ∈ l) : bulk x ≤ sumBulk bulk l := by
  induction l with
  | nil => cases h
  | cons y r ih =>
    rw [sumBulk_cons]
    rcases List.mem_cons.1 h with rfl | h
    · omega
    · have := ih h; omega
theorem sumBulk_len {α : Type} (bulk : α → Nat) (h1 : ∀ x, 1 ≤ bulk x) (l : List α) : l.length ≤ sumBulk bulk l := by
  induction l with
  | nil => exact Nat.zero_le _
  | cons y r ih => rw [sumBulk_cons, List.length_cons]; have := h1 y; omega
theorem list_of {α : Type} {Q : Nat → α → Prop} : ∀ (n : Nat), (∀ i, i < n → ∃ y, Q i y) → ∃ l : List α, l.length = n ∧ ∀ i y, l[i]? = some y → Q i y
  | 0, _ => ⟨[], rfl, fun i y h => by simp at h⟩
  | n + 1, h => by
    obtain ⟨l, hl, hq⟩ := list_of n (fun i hi => h i (by omega))
    obtain ⟨y, hy⟩ := h n (by omega)
    refine ⟨l ++ [y], by simp [hl], fun i z hz => ?_⟩
    rcases Nat.lt_trichotomy i n with hi | hi | hi
    · rw [List.getElem?_append_left (by omega)] at hz
      exact hq i z hz
    · subst hi
      rw [List.getElem?_append_right (by omega), hl] at hz
      simp at hz
      subst hz
      exact hy
    · rw [List.getElem?_eq_none (by simp [hl]; omega)] at hz
      cases hz
theorem bulkAll_append {H : Type} (l r : List (DataW H)) : Rows.uptoBulkAll (l ++ r) = Rows.uptoBulkAll l + Rows.uptoBulkAll r := by
  induction l with
  | nil => simp [Rows.uptoBulkAll]
  | cons x l ih => simp only [List.cons_append, Rows.uptoBulkAll, ih]; omega
theorem bulkAll_map {H : Type} {α : Type} (bulk : α → Nat) (D : Nat → DataW H) : ∀ (n : Nat) (l : List α), l.length = n → (∀ i y, l[i]? = some y → bulk y ≤ Rows.uptoBulk (D i)) → sumBulk bulk l ≤ Rows.uptoBulkAll ((List.range n).map D)
  | 0, l, hl, _ => by
    have : l = [] := List.length_eq_zero_iff.1 hl
    subst this
    simp [sumBulk]
  | n + 1, l, hl, h => by
    have hne : l ≠ [] := by
      intro e
      rw [e] at hl
      simp at hl
    obtain ⟨l0, y0, rfl⟩ : ∃ l0 y0, l = l0 ++ [y0] := ⟨l.dropLast, l.getLast hne, (List.dropLast_concat_getLast hne).symm⟩
    have hd : l0.length = n := by simpa using hl
    have ih := bulkAll_map bulk D n l0 hd (fun i y hy => h i y (by
      have hi : i < l0.length := (List.getElem?_eq_some_iff.1 hy).1
      rw [List.getElem?_append_left hi]
      exact hy))
    have hn := h n y0 (by
      rw [List.getElem?_append_right (by omega), hd]
      simp)
    rw [List.range_succ, List.map_append, bulkAll_append, sumBulk_append]
    simp only [List.map_cons, List.map_nil, sumBulk_cons, sumBulk_nil, Rows.uptoBulkAll]
    omega
theorem opens_slice {P : Program} {t e : TypeId} {α : Type} {d : Kd α} {good : α → Prop} {bulk : α → Nat} (h : P.underlying t = some (.slice e)) (hc : P.cellsOf t = 1) (he : Opens P e d good bulk) : Opens P t (Kd.slice e d) (fun l => ∀ x ∈ l, good x) (fun l => sumBulk bulk l + 1) where
  sz := hc
  one := fun l => Nat.le_add_left 1 _
  go := by
    intro H enc w base spare held fuel cs x hx
    rcases open_slice h hx with ⟨rfl, rfl⟩ | ⟨a, len, cap, m, n, D, Pl, rfl, hb, hl, hm, hmm, rfl, hi⟩
    · exact ⟨[], ⟨none, 0, rfl, Nat.le_refl _, Kd.C_nil _ _⟩, by simp, by simp [sumBulk, Rows.uptoBulk]⟩
    · have hlm : len ≤ m := by
        rw [hmm]
        split
        · exact hl
        · exact Nat.le_refl _
      obtain ⟨l, hll, hq⟩ := list_of (Q := fun i y => ∃ cs', w.cells? base (a.add (i * P.cellsOf e)) (P.cellsOf e) = some cs' ∧ d.K w y cs' ∧ good y ∧ bulk y ≤ Rows.uptoBulk (D i)) len (fun i hlt => by
        obtain ⟨cs', hcs, ht⟩ := hi i (by omega)
        obtain ⟨y, h1, h2, h3⟩ := he.go ht
        exact ⟨y, cs', hcs, h1, h2, h3⟩)
      subst hll
      refine ⟨l, ⟨some a, cap, rfl, hl, rfl, by unfold maxLen at hm; omega, fun _ => ⟨a, rfl, fun j p hj => ?_⟩⟩, fun x hx => ?_, ?_⟩
      · obtain ⟨cs', hcs, hk, _, _⟩ := hq j p hj
        obtain ⟨_, hlen, hat⟩ := World.cells?_some hcs
        rw [he.sz] at hlen hat
        refine ⟨cs', hlen, hk, fun i u hu => ?_⟩
        have hil : i < cs'.length := (List.getElem?_eq_some_iff.1 hu).1
        have := hat i (by omega)
        rw [Go.Deep.add_add] at this
        rw [this, hu]
      · obtain ⟨i, hi2⟩ := List.getElem?_of_mem hx
        obtain ⟨_, _, _, hg, _⟩ := hq i x hi2
        exact hg
      · have hbk := bulkAll_map bulk D l.length l rfl (fun i y hy => by
          obtain ⟨_, _, _, _, h5⟩ := hq i y hy
          exact h5)
        simp only [Rows.uptoBulk]
        omega
theorem opens_struct2 {P : Program} {t : TypeId} {f0 f1 : Field} {α β : Type} {d0 : Kd α} {d1 : Kd β} {g0 : α → Prop} {g1 : β → Prop} {b0 : α → Nat} {b1 : β → Nat} (ht : P.underlying t = some (.struct #[f0, f1])) (hc : P.cellsOf t = d0.sz + d1.sz)
    (ho0 : f0.offset = 0) (ho1 : f1.offset = d0.sz) (h0 : Opens P f0.type d0 g0 b0) (h1 : Opens P f1.type d1 g1 b1) : Opens P t (Kd.pair d0 d1) (fun x => g0 x.1 ∧ g1 x.2) (fun x => b0 x.1 + b1 x.2 + 1) where
  sz := hc
  one := fun l => Nat.le_add_left 1 _
  go := by
    intro H enc w base spare held fuel cs x hx
    obtain ⟨y0, y1, n, rfl, hl, e0, e1⟩ := trod_struct2 ht hx
    obtain ⟨a, k0, q0, p0⟩ := h0.go e0
    obtain ⟨b, k1, q1, p1⟩ := h1.go e1
    rw [ho0, h0.sz] at k0
    rw [ho1, h1.sz] at k1
    refine ⟨(a, b), ⟨_, _, ?_, k0, k1⟩, ⟨q0, q1⟩, ?_⟩
    · rw [List.drop_zero]
      have hd : (cs.drop d0.sz).take d1.sz = cs.drop d0.sz := List.take_of_length_le (by rw [List.length_drop]; omega)
      rw [hd, List.take_append_drop]
    · simp only [Rows.uptoBulk, Rows.uptoBulkAll]
      omega
theorem opens_struct3 {P : Program} {t : TypeId} {f0 f1 f2 : Field} {α β γ : Type} {d0 : Kd α} {d1 : Kd β} {d2 : Kd γ} {g0 : α → Prop} {g1 : β → Prop} {g2 : γ → Prop} {b0 : α → Nat} {b1 : β → Nat} {b2 : γ → Nat} (ht : P.underlying t = some (.struct #[f0, f1, f2])) (hc : P.cellsOf t = d0.sz + (d1.sz + d2.sz))
    (ho0 : f0.offset = 0) (ho1 : f1.offset = d0.sz) (ho2 : f2.offset = d0.sz + d1.sz) (h0 : Opens P f0.type d0 g0 b0) (h1 : Opens P f1.type d1 g1 b1) (h2 : Opens P f2.type d2 g2 b2) : Opens P t (Kd.pair d0 (Kd.pair d1 d2)) (fun x => g0 x.1 ∧ g1 x.2.1 ∧ g2 x.2.2) (fun x => b0 x.1 + b1 x.2.1 + b2 x.2.2 + 1) where
  sz := hc
  one := fun l => Nat.le_add_left 1 _
  go := by
    intro H enc w base spare held fuel cs x hx
    obtain ⟨y0, y1, y2, n, rfl, hl, e0, e1, e2⟩ := trod_struct3 ht hx
    obtain ⟨a, k0, q0, p0⟩ := h0.go e0
    obtain ⟨b, k1, q1, p1⟩ := h1.go e1
    obtain ⟨c, k2, q2, p2⟩ := h2.go e2
    rw [ho0, h0.sz] at k0
    rw [ho1, h1.sz] at k1
    rw [ho2, h2.sz] at k2
    refine ⟨(a, b, c), ⟨_, _, ?_, k0, _, _, rfl, k1, k2⟩, ⟨q0, q1, q2⟩, ?_⟩
    · rw [List.drop_zero]
      have hd : (cs.drop (d0.sz + d1.sz)).take d2.sz = cs.drop (d0.sz + d1.sz) := List.take_of_length_le (by rw [List.length_drop]; omega)
      rw [hd, ← List.drop_drop, List.take_append_drop, List.take_append_drop]
    · simp only [Rows.uptoBulk, Rows.uptoBulkAll]
      omega
theorem seg_join {α : Type} (cs : List α) (o n : Nat) : (cs.drop o).take n ++ cs.drop (o + n) = cs.drop o := by
  rw [← List.drop_drop, List.take_append_drop]
theorem opens_struct4 {P : Program} {t : TypeId} {f0 f1 f2 f3 : Field} {α0 α1 α2 α3 : Type} {d0 : Kd α0} {d1 : Kd α1} {d2 : Kd α2} {d3 : Kd α3} {g0 : α0 → Prop} {g1 : α1 → Prop} {g2 : α2 → Prop} {g3 : α3 → Prop} {b0 : α0 → Nat} {b1 : α1 → Nat} {b2 : α2 → Nat} {b3 : α3 → Nat} (ht : P.underlying t = some (.struct #[f0, f1, f2, f3])) (hc : P.cellsOf t = (d0.sz + (d1.sz + (d2.sz + d3.sz))))
    (ho0 : f0.offset = 0) (ho1 : f1.offset = d0.sz) (ho2 : f2.offset = d0.sz + d1.sz) (ho3 : f3.offset = d0.sz + d1.sz + d2.sz) (h0 : Opens P f0.type d0 g0 b0) (h1 : Opens P f1.type d1 g1 b1) (h2 : Opens P f2.type d2 g2 b2) (h3 : Opens P f3.type d3 g3 b3) : Opens P t (Kd.pair d0 (Kd.pair d1 (Kd.pair d2 d3))) (fun x => g0 x.1 ∧ g1 x.2.1 ∧ g2 x.2.2.1 ∧ g3 x.2.2.2) (fun x => b0 x.1 + b1 x.2.1 + b2 x.2.2.1 + b3 x.2.2.2 + 1) where
  sz := hc
  one := fun l => Nat.le_add_left 1 _
  go := by
    intro H enc w base spare held fuel cs x hx
    obtain ⟨xs, n, _, rfl, hl, hlen, hf⟩ := DataW.trod_struct ht hx
    match xs, hlen with
    | [y0, y1, y2, y3], _ =>
      obtain ⟨a0, k0, q0, p0⟩ := h0.go (show DataW.trod enc P w base spare held n f0.type ((cs.drop f0.offset).take (P.cellsOf f0.type)) = some y0 from by simpa using hf 0 f0 rfl)
      rw [ho0, h0.sz] at k0
      obtain ⟨a1, k1, q1, p1⟩ := h1.go (show DataW.trod enc P w base spare held n f1.type ((cs.drop f1.offset).take (P.cellsOf f1.type)) = some y1 from by simpa using hf 1 f1 rfl)
      rw [ho1, h1.sz] at k1
      obtain ⟨a2, k2, q2, p2⟩ := h2.go (show DataW.trod enc P w base spare held n f2.type ((cs.drop f2.offset).take (P.cellsOf f2.type)) = some y2 from by simpa using hf 2 f2 rfl)
      rw [ho2, h2.sz] at k2
      obtain ⟨a3, k3, q3, p3⟩ := h3.go (show DataW.trod enc P w base spare held n f3.type ((cs.drop f3.offset).take (P.cellsOf f3.type)) = some y3 from by simpa using hf 3 f3 rfl)
      rw [ho3, h3.sz] at k3
      refine ⟨(a0, a1, a2, a3), ⟨_, _, ?_, k0, _, _, rfl, k1, _, _, rfl, k2, k3⟩, ⟨q0, q1, q2, q3⟩, ?_⟩
      · rw [List.drop_zero]
        have hd : (cs.drop (d0.sz + d1.sz + d2.sz)).take d3.sz = cs.drop (d0.sz + d1.sz + d2.sz) := List.take_of_length_le (by rw [List.length_drop]; omega)
        rw [hd, seg_join, seg_join, List.take_append_drop]
      · simp only [List.map_cons, List.map_nil, Rows.uptoBulk, Rows.uptoBulkAll]
        omega
theorem opens_struct5 {P : Program} {t : TypeId} {f0 f1 f2 f3 f4 : Field} {α0 α1 α2 α3 α4 : Type} {d0 : Kd α0} {d1 : Kd α1} {d2 : Kd α2} {d3 : Kd α3} {d4 : Kd α4} {g0 : α0 → Prop} {g1 : α1 → Prop} {g2 : α2 → Prop} {g3 : α3 → Prop} {g4 : α4 → Prop} {b0 : α0 → Nat} {b1 : α1 → Nat} {b2 : α2 → Nat} {b3 : α3 → Nat} {b4 : α4 → Nat} (ht : P.underlying t = some (.struct #[f0, f1, f2, f3, f4])) (hc : P.cellsOf t = (d0.sz + (d1.sz + (d2.sz + (d3.sz + d4.sz)))))
    (ho0 : f0.offset = 0) (ho1 : f1.offset = d0.sz) (ho2 : f2.offset = d0.sz + d1.sz) (ho3 : f3.offset = d0.sz + d1.sz + d2.sz) (ho4 : f4.offset = d0.sz + d1.sz + d2.sz + d3.sz) (h0 : Opens P f0.type d0 g0 b0) (h1 : Opens P f1.type d1 g1 b1) (h2 : Opens P f2.type d2 g2 b2) (h3 : Opens P f3.type d3 g3 b3) (h4 : Opens P f4.type d4 g4 b4) : Opens P t (Kd.pair d0 (Kd.pair d1 (Kd.pair d2 (Kd.pair d3 d4)))) (fun x => g0 x.1 ∧ g1 x.2.1 ∧ g2 x.2.2.1 ∧ g3 x.2.2.2.1 ∧ g4 x.2.2.2.2) (fun x => b0 x.1 + b1 x.2.1 + b2 x.2.2.1 + b3 x.2.2.2.1 + b4 x.2.2.2.2 + 1) where
  sz := hc
  one := fun l => Nat.le_add_left 1 _
  go := by
    intro H enc w base spare held fuel cs x hx
    obtain ⟨xs, n, _, rfl, hl, hlen, hf⟩ := DataW.trod_struct ht hx
    match xs, hlen with
    | [y0, y1, y2, y3, y4], _ =>
      obtain ⟨a0, k0, q0, p0⟩ := h0.go (show DataW.trod enc P w base spare held n f0.type ((cs.drop f0.offset).take (P.cellsOf f0.type)) = some y0 from by simpa using hf 0 f0 rfl)
      rw [ho0, h0.sz] at k0
      obtain ⟨a1, k1, q1, p1⟩ := h1.go (show DataW.trod enc P w base spare held n f1.type ((cs.drop f1.offset).take (P.cellsOf f1.type)) = some y1 from by simpa using hf 1 f1 rfl)
      rw [ho1, h1.sz] at k1
      obtain ⟨a2, k2, q2, p2⟩ := h2.go (show DataW.trod enc P w base spare held n f2.type ((cs.drop f2.offset).take (P.cellsOf f2.type)) = some y2 from by simpa using hf 2 f2 rfl)
      rw [ho2, h2.sz] at k2
      obtain ⟨a3, k3, q3, p3⟩ := h3.go (show DataW.trod enc P w base spare held n f3.type ((cs.drop f3.offset).take (P.cellsOf f3.type)) = some y3 from by simpa using hf 3 f3 rfl)
      rw [ho3, h3.sz] at k3
      obtain ⟨a4, k4, q4, p4⟩ := h4.go (show DataW.trod enc P w base spare held n f4.type ((cs.drop f4.offset).take (P.cellsOf f4.type)) = some y4 from by simpa using hf 4 f4 rfl)
      rw [ho4, h4.sz] at k4
      refine ⟨(a0, a1, a2, a3, a4), ⟨_, _, ?_, k0, _, _, rfl, k1, _, _, rfl, k2, _, _, rfl, k3, k4⟩, ⟨q0, q1, q2, q3, q4⟩, ?_⟩
      · rw [List.drop_zero]
        have hd : (cs.drop (d0.sz + d1.sz + d2.sz + d3.sz)).take d4.sz = cs.drop (d0.sz + d1.sz + d2.sz + d3.sz) := List.take_of_length_le (by rw [List.length_drop]; omega)
        rw [hd, seg_join, seg_join, seg_join, List.take_append_drop]
      · simp only [List.map_cons, List.map_nil, Rows.uptoBulk, Rows.uptoBulkAll]
        omega
theorem opens_struct6 {P : Program} {t : TypeId} {f0 f1 f2 f3 f4 f5 : Field} {α0 α1 α2 α3 α4 α5 : Type} {d0 : Kd α0} {d1 : Kd α1} {d2 : Kd α2} {d3 : Kd α3} {d4 : Kd α4} {d5 : Kd α5} {g0 : α0 → Prop} {g1 : α1 → Prop} {g2 : α2 → Prop} {g3 : α3 → Prop} {g4 : α4 → Prop} {g5 : α5 → Prop} {b0 : α0 → Nat} {b1 : α1 → Nat} {b2 : α2 → Nat} {b3 : α3 → Nat} {b4 : α4 → Nat} {b5 : α5 → Nat} (ht : P.underlying t = some (.struct #[f0, f1, f2, f3, f4, f5])) (hc : P.cellsOf t = (d0.sz + (d1.sz + (d2.sz + (d3.sz + (d4.sz + d5.sz))))))
    (ho0 : f0.offset = 0) (ho1 : f1.offset = d0.sz) (ho2 : f2.offset = d0.sz + d1.sz) (ho3 : f3.offset = d0.sz + d1.sz + d2.sz) (ho4 : f4.offset = d0.sz + d1.sz + d2.sz + d3.sz) (ho5 : f5.offset = d0.sz + d1.sz + d2.sz + d3.sz + d4.sz) (h0 : Opens P f0.type d0 g0 b0) (h1 : Opens P f1.type d1 g1 b1) (h2 : Opens P f2.type d2 g2 b2) (h3 : Opens P f3.type d3 g3 b3) (h4 : Opens P f4.type d4 g4 b4) (h5 : Opens P f5.type d5 g5 b5) : Opens P t (Kd.pair d0 (Kd.pair d1 (Kd.pair d2 (Kd.pair d3 (Kd.pair d4 d5))))) (fun x => g0 x.1 ∧ g1 x.2.1 ∧ g2 x.2.2.1 ∧ g3 x.2.2.2.1 ∧ g4 x.2.2.2.2.1 ∧ g5 x.2.2.2.2.2) (fun x => b0 x.1 + b1 x.2.1 + b2 x.2.2.1 + b3 x.2.2.2.1 + b4 x.2.2.2.2.1 + b5 x.2.2.2.2.2 + 1) where
  sz := hc
  one := fun l => Nat.le_add_left 1 _
  go := by
    intro H enc w base spare held fuel cs x hx
    obtain ⟨xs, n, _, rfl, hl, hlen, hf⟩ := DataW.trod_struct ht hx
    match xs, hlen with
    | [y0, y1, y2, y3, y4, y5], _ =>
      obtain ⟨a0, k0, q0, p0⟩ := h0.go (show DataW.trod enc P w base spare held n f0.type ((cs.drop f0.offset).take (P.cellsOf f0.type)) = some y0 from by simpa using hf 0 f0 rfl)
      rw [ho0, h0.sz] at k0
      obtain ⟨a1, k1, q1, p1⟩ := h1.go (show DataW.trod enc P w base spare held n f1.type ((cs.drop f1.offset).take (P.cellsOf f1.type)) = some y1 from by simpa using hf 1 f1 rfl)
      rw [ho1, h1.sz] at k1
      obtain ⟨a2, k2, q2, p2⟩ := h2.go (show DataW.trod enc P w base spare held n f2.type ((cs.drop f2.offset).take (P.cellsOf f2.type)) = some y2 from by simpa using hf 2 f2 rfl)
      rw [ho2, h2.sz] at k2
      obtain ⟨a3, k3, q3, p3⟩ := h3.go (show DataW.trod enc P w base spare held n f3.type ((cs.drop f3.offset).take (P.cellsOf f3.type)) = some y3 from by simpa using hf 3 f3 rfl)
      rw [ho3, h3.sz] at k3
      obtain ⟨a4, k4, q4, p4⟩ := h4.go (show DataW.trod enc P w base spare held n f4.type ((cs.drop f4.offset).take (P.cellsOf f4.type)) = some y4 from by simpa using hf 4 f4 rfl)
      rw [ho4, h4.sz] at k4
      obtain ⟨a5, k5, q5, p5⟩ := h5.go (show DataW.trod enc P w base spare held n f5.type ((cs.drop f5.offset).take (P.cellsOf f5.type)) = some y5 from by simpa using hf 5 f5 rfl)
      rw [ho5, h5.sz] at k5
      refine ⟨(a0, a1, a2, a3, a4, a5), ⟨_, _, ?_, k0, _, _, rfl, k1, _, _, rfl, k2, _, _, rfl, k3, _, _, rfl, k4, k5⟩, ⟨q0, q1, q2, q3, q4, q5⟩, ?_⟩
      · rw [List.drop_zero]
        have hd : (cs.drop (d0.sz + d1.sz + d2.sz + d3.sz + d4.sz)).take d5.sz = cs.drop (d0.sz + d1.sz + d2.sz + d3.sz + d4.sz) := List.take_of_length_le (by rw [List.length_drop]; omega)
        rw [hd, seg_join, seg_join, seg_join, seg_join, List.take_append_drop]
      · simp only [List.map_cons, List.map_nil, Rows.uptoBulk, Rows.uptoBulkAll]
        omega
theorem opens_struct7 {P : Program} {t : TypeId} {f0 f1 f2 f3 f4 f5 f6 : Field} {α0 α1 α2 α3 α4 α5 α6 : Type} {d0 : Kd α0} {d1 : Kd α1} {d2 : Kd α2} {d3 : Kd α3} {d4 : Kd α4} {d5 : Kd α5} {d6 : Kd α6} {g0 : α0 → Prop} {g1 : α1 → Prop} {g2 : α2 → Prop} {g3 : α3 → Prop} {g4 : α4 → Prop} {g5 : α5 → Prop} {g6 : α6 → Prop} {b0 : α0 → Nat} {b1 : α1 → Nat} {b2 : α2 → Nat} {b3 : α3 → Nat} {b4 : α4 → Nat} {b5 : α5 → Nat} {b6 : α6 → Nat} (ht : P.underlying t = some (.struct #[f0, f1, f2, f3, f4, f5, f6])) (hc : P.cellsOf t = (d0.sz + (d1.sz + (d2.sz + (d3.sz + (d4.sz + (d5.sz + d6.sz)))))))
    (ho0 : f0.offset = 0) (ho1 : f1.offset = d0.sz) (ho2 : f2.offset = d0.sz + d1.sz) (ho3 : f3.offset = d0.sz + d1.sz + d2.sz) (ho4 : f4.offset = d0.sz + d1.sz + d2.sz + d3.sz) (ho5 : f5.offset = d0.sz + d1.sz + d2.sz + d3.sz + d4.sz) (ho6 : f6.offset = d0.sz + d1.sz + d2.sz + d3.sz + d4.sz + d5.sz) (h0 : Opens P f0.type d0 g0 b0) (h1 : Opens P f1.type d1 g1 b1) (h2 : Opens P f2.type d2 g2 b2) (h3 : Opens P f3.type d3 g3 b3) (h4 : Opens P f4.type d4 g4 b4) (h5 : Opens P f5.type d5 g5 b5) (h6 : Opens P f6.type d6 g6 b6) : Opens P t (Kd.pair d0 (Kd.pair d1 (Kd.pair d2 (Kd.pair d3 (Kd.pair d4 (Kd.pair d5 d6)))))) (fun x => g0 x.1 ∧ g1 x.2.1 ∧ g2 x.2.2.1 ∧ g3 x.2.2.2.1 ∧ g4 x.2.2.2.2.1 ∧ g5 x.2.2.2.2.2.1 ∧ g6 x.2.2.2.2.2.2) (fun x => b0 x.1 + b1 x.2.1 + b2 x.2.2.1 + b3 x.2.2.2.1 + b4 x.2.2.2.2.1 + b5 x.2.2.2.2.2.1 + b6 x.2.2.2.2.2.2 + 1) where
  sz := hc
  one := fun l => Nat.le_add_left 1 _
  go := by
    intro H enc w base spare held fuel cs x hx
    obtain ⟨xs, n, _, rfl, hl, hlen, hf⟩ := DataW.trod_struct ht hx
    match xs, hlen with
    | [y0, y1, y2, y3, y4, y5, y6], _ =>
      obtain ⟨a0, k0, q0, p0⟩ := h0.go (show DataW.trod enc P w base spare held n f0.type ((cs.drop f0.offset).take (P.cellsOf f0.type)) = some y0 from by simpa using hf 0 f0 rfl)
      rw [ho0, h0.sz] at k0
      obtain ⟨a1, k1, q1, p1⟩ := h1.go (show DataW.trod enc P w base spare held n f1.type ((cs.drop f1.offset).take (P.cellsOf f1.type)) = some y1 from by simpa using hf 1 f1 rfl)
      rw [ho1, h1.sz] at k1
      obtain ⟨a2, k2, q2, p2⟩ := h2.go (show DataW.trod enc P w base spare held n f2.type ((cs.drop f2.offset).take (P.cellsOf f2.type)) = some y2 from by simpa using hf 2 f2 rfl)
      rw [ho2, h2.sz] at k2
      obtain ⟨a3, k3, q3, p3⟩ := h3.go (show DataW.trod enc P w base spare held n f3.type ((cs.drop f3.offset).take (P.cellsOf f3.type)) = some y3 from by simpa using hf 3 f3 rfl)
      rw [ho3, h3.sz] at k3
      obtain ⟨a4, k4, q4, p4⟩ := h4.go (show DataW.trod enc P w base spare held n f4.type ((cs.drop f4.offset).take (P.cellsOf f4.type)) = some y4 from by simpa using hf 4 f4 rfl)
      rw [ho4, h4.sz] at k4
      obtain ⟨a5, k5, q5, p5⟩ := h5.go (show DataW.trod enc P w base spare held n f5.type ((cs.drop f5.offset).take (P.cellsOf f5.type)) = some y5 from by simpa using hf 5 f5 rfl)
      rw [ho5, h5.sz] at k5
      obtain ⟨a6, k6, q6, p6⟩ := h6.go (show DataW.trod enc P w base spare held n f6.type ((cs.drop f6.offset).take (P.cellsOf f6.type)) = some y6 from by simpa using hf 6 f6 rfl)
      rw [ho6, h6.sz] at k6
      refine ⟨(a0, a1, a2, a3, a4, a5, a6), ⟨_, _, ?_, k0, _, _, rfl, k1, _, _, rfl, k2, _, _, rfl, k3, _, _, rfl, k4, _, _, rfl, k5, k6⟩, ⟨q0, q1, q2, q3, q4, q5, q6⟩, ?_⟩
      · rw [List.drop_zero]
        have hd : (cs.drop (d0.sz + d1.sz + d2.sz + d3.sz + d4.sz + d5.sz)).take d6.sz = cs.drop (d0.sz + d1.sz + d2.sz + d3.sz + d4.sz + d5.sz) := List.take_of_length_le (by rw [List.length_drop]; omega)
        rw [hd, seg_join, seg_join, seg_join, seg_join, seg_join, List.take_append_drop]
      · simp only [List.map_cons, List.map_nil, Rows.uptoBulk, Rows.uptoBulkAll]
        omega
/-- a kind that is told by a structure of its own -/
theorem opens_iso {P : Program} {t : TypeId} {α β : Type} {d : Kd α} {good : α → Prop} {bulk : α → Nat} (h : Opens P t d good bulk) (f : β → α) (g : α → β) (hfg : ∀ a, f (g a) = a) : Opens P t (Kd.iso d f) (fun x => good (f x)) (fun x => bulk (f x)) where
  sz := h.sz
  one := fun x => h.one (f x)
  go := by
    intro H enc w base spare held fuel cs x hx
    obtain ⟨a, k, q, p⟩ := h.go hx
    refine ⟨g a, ?_, ?_, ?_⟩
    · show d.K w (f (g a)) cs
      rw [hfg]; exact k
    · rw [hfg]; exact q
    · rw [hfg]; exact p
/-- an argument's bulk, of the whole's -/
theorem bulk_bound {H : Type} {ds : List (DataW H)} (hk : Rows.uptoSmall H ds = true) : Rows.uptoBulkAll ds ≤ 1048576 := of_decide_eq_true hk

end Go.Proofs.Ytppldgbgdgeegaa.G

/- Contracts typed by hand: the law EditMerges -/
namespace Go.Proofs.Ytppldgbgdgeegaa.G
open Go.RowKit Go.Proofs.YtppldgbgdgeegaaW.PrintWords Go.Proofs.YtppldgbgdgeegaaW.PrintLast Go.Proofs.YtppldgbgdgeegaaW.PrintMore
attribute [local go_sem] max2_int min2_int max_two min_two max_three min_three max_four min_four
set_option linter.unusedVariables false
set_option linter.unusedSimpArgs false

/-! the law EditMerges -/
open Go.WideMaps Go.WideElems
abbrev zE : Array Value := cE 0 0 0 (.slice none 0 0) (.slice none 0 0)
set_option maxHeartbeats 64000000 in
set_option maxRecDepth 100000 in
theorem merges_calls (a0 a1 a2 : Int) (A3 : Option Addr) (c3 : Nat) (aG : List S45) (A4 : Option Addr) (c4 : Nat) (aC : List S43) (b0 b1 b2 : Int) (B3 : Option Addr) (d3 : Nat) (bG : List S45) (B4 : Option Addr) (d4 : Nat) (bC : List S43) (n m p q : Nat) (hn : aG.length = n) (hm : aC.length = m) (hp : bG.length = p) (hq : bC.length = q) (hl : n ≤ 1048576 ∧ m ≤ 1048576 ∧ p ≤ 1048576 ∧ q ≤ 1048576)
    (hwa : ∀ x ∈ aC, WfP (plC x)) (hwb : ∀ x ∈ bG, WfP (plG x)) (w : World) (h3 : Kd.C k45 w A3 n aG) (hc3 : n ≤ c3) (h4 : Kd.C k43 w A4 m aC) (hc4 : m ≤ c4) (g3 : Kd.C k45 w B3 p bG) (gc3 : p ≤ d3) (g4 : Kd.C k43 w B4 q bC) (gc4 : q ≤ d4) :
    Calls Try.prog 4 #[.agg (cE a0 a1 a2 (.slice A3 n c3) (.slice A4 m c4)), .agg (cE b0 b1 b2 (.slice B3 p d3) (.slice B4 q d4))] w fun e w' => e = .returned (.bool true) ∧ Below w.heap.size w w' := by
  have H3 := Aside0.mk (And.intro h3 hc3)
  have H4 := Aside0.mk (And.intro h4 hc4)
  have G3 := Aside0.mk (And.intro g3 gc3)
  have G4 := Aside0.mk (And.intro g4 gc4)
  have HN := Aside0.mk (And.intro (And.intro hn hm) (And.intro hp hq))
  have HL := Aside0.mk hl
  have HWA := Aside0.mk hwa
  have HWB := Aside0.mk hwb
  obtain ⟨rn, hrn⟩ : ∃ r, (mG aG aC bG).length = r := ⟨_, rfl⟩
  obtain ⟨rm, hrm⟩ : ∃ r, (mC aC bC bG).length = r := ⟨_, rfl⟩
  have HRN := Aside0.mk hrn
  have HRM := Aside0.mk hrm
  have HRL := Aside0.mk (show rn ≤ 8000000 ∧ rm ≤ 8000000 by
    have h1 := mG_len aG aC bG
    have h2 := mC_len aC bC bG
    omega)
  obtain ⟨M0, hM0⟩ : ∃ X, mN a0 b0 = X := ⟨_, rfl⟩
  obtain ⟨M1, hM1⟩ : ∃ X, mN a1 b1 = X := ⟨_, rfl⟩
  obtain ⟨M2, hM2⟩ : ∃ X, mN a2 b2 = X := ⟨_, rfl⟩
  have HM := Aside0.mk (And.intro hM0 (And.intro hM1 hM2))
  obtain ⟨W0, hW0⟩ : ∃ W0, (w.alloc (.cells (cE a0 a1 a2 (.slice A3 n c3) (.slice A4 m c4)) 31)).alloc (.cells (cE b0 b1 b2 (.slice B3 p d3) (.slice B4 q d4)) 31) = W0 := ⟨_, rfl⟩
  have z1 := blk_new (w.alloc (.cells (cE a0 a1 a2 (.slice A3 n c3) (.slice A4 m c4)) 31)) (.cells (cE b0 b1 b2 (.slice B3 p d3) (.slice B4 q d4)) 31)
  have z0 := blk_new w (.cells (cE a0 a1 a2 (.slice A3 n c3) (.slice A4 m c4)) 31)
  rw [World.size_alloc, hW0] at z1
  have z0' : W0.heap[w.heap.size]? = some (.cells (cE a0 a1 a2 (.slice A3 n c3) (.slice A4 m c4)) 31 (0, 0)) := by rw [← hW0]; exact (Below.heap_alloc _ _ _ (by rw [World.size_alloc]; omega)).trans z0
  have HB := Aside0.mk (show Below w.heap.size w W0 by rw [← hW0]; exact below_alloc (below_alloc (Below.refl _ _) _) _)
  have BA := Aside0.mk z0'
  have BB := Aside0.mk z1
  have HSZ := Aside0.mk (show W0.heap.size = w.heap.size + 2 by rw [← hW0, World.size_alloc, World.size_alloc])
  have HW := Aside0.mk hW0
  have HCX := Aside0.mk (fun (W : World) (hb : Below W0.heap.size W0 W) => lent15 a0 a1 a2 A3 c3 aG A4 c4 aC n m hn hm (by omega) (by omega) W (Kd.C_below h3 (below_step HB.out hb)) hc3 (Kd.C_below h4 (below_step HB.out hb)) hc4)
  have HCY := Aside0.mk (fun (W : World) (hb : Below W0.heap.size W0 W) => lent15 b0 b1 b2 B3 d3 bG B4 d4 bC p q hp hq (by omega) (by omega) W (Kd.C_below g3 (below_step HB.out hb)) gc3 (Kd.C_below g4 (below_step HB.out hb)) gc4)
  have HMG := Aside0.mk (fun (X3 : Option Addr) (x3 : Nat) (X4 : Option Addr) (x4 : Nat) (Y3 : Option Addr) (y3 : Nat) (Y4 : Option Addr) (y4 : Nat) (b b' : Nat) (W : World) (hx : EdR W b (.slice X3 n x3) (.slice X4 m x4) aG aC) (hy : EdR W b' (.slice Y3 p y3) (.slice Y4 q y4) bG bC) => merge15 a0 a1 a2 X3 x3 aG X4 x4 aC b0 b1 b2 Y3 y3 bG Y4 y4 bC n m p q rn rm hn hm hp hq hrn hrm (by omega) hwa hwb W hx.c3.1 hx.c3.2 hx.c4.1 hx.c4.2 hy.c3.1 hy.c3.2 hy.c4.1 hy.c4.2)
  have HRF := Aside0.mk (fun (W : World) (hb : Below w.heap.size w W) => ref15 a0 a1 a2 A3 c3 aG A4 c4 aC b0 b1 b2 B3 d3 bG B4 d4 bC n m p q rn rm hn hm hp hq hrn hrm (by omega) W (Kd.C_below h3 hb) hc3 (Kd.C_below h4 hb) hc4 (Kd.C_below g3 hb) gc3 (Kd.C_below g4 hb) gc4)
  rw [hM0, hM1, hM2] at HMG HRF
  have u0 := blk_cell BA.out 0
  have u1 := blk_cell BA.out 1
  have u2 := blk_cell BA.out 2
  have u3 := blk_cell BA.out 3
  have u4 := blk_cell BA.out 4
  have v0 := blk_cell BB.out 0
  have v1 := blk_cell BB.out 1
  have v2 := blk_cell BB.out 2
  have v3 := blk_cell BB.out 3
  have v4 := blk_cell BB.out 4
  clear hn hm hp hq hl hwa hwb h3 hc3 h4 hc4 g3 gc3 g4 gc4 hrn hrm hM0 hM1 hM2 z0 z1 z0' hW0
  go_enter Try.func4, Try.ntmps4
  go_wp2_with fail
  rw [HW.out]
  clear HW
  refine start_ (n := 8) (S := fun w' => w'.cell? ⟨w.heap.size, 0, none⟩ = some (.int .i64 a0) ∧ w'.cell? ⟨w.heap.size, 1, none⟩ = some (.int .i64 a1) ∧ w'.cell? ⟨w.heap.size, 2, none⟩ = some (.int .u64 a2) ∧ w'.cell? ⟨w.heap.size, 3, none⟩ = some (.slice A3 n c3) ∧ w'.cell? ⟨w.heap.size, 4, none⟩ = some (.slice A4 m c4) ∧ w'.cell? ⟨w.heap.size + 1, 0, none⟩ = some (.int .i64 b0) ∧ w'.cell? ⟨w.heap.size + 1, 1, none⟩ = some (.int .i64 b1) ∧ w'.cell? ⟨w.heap.size + 1, 2, none⟩ = some (.int .u64 b2) ∧ w'.cell? ⟨w.heap.size + 1, 3, none⟩ = some (.slice B3 p d3) ∧ w'.cell? ⟨w.heap.size + 1, 4, none⟩ = some (.slice B4 q d4)) (ds := [6, 7]) #[false, false, false, false, false, false, false, false] (by kernel_rfl) rfl rfl ⟨u0, u1, u2, u3, u4, v0, v1, v2, v3, v4⟩ (fun hHeld => ?_)
  refine take_ (i := 0) (N := some 10) (v := ?_) (a' := ?_) #[true, false, false, false, false, false, false, false] rfl rfl (by kernel_rfl) (fun _ _ _ h => h) (Or.inl ⟨by rfl, ?_⟩) hHeld ?_ ?_
  rotate_left
  · rintro w' ⟨s0, s1, s2, s3, s4, s5, s6, s7, s8, s9⟩
    go_simp
    with_reducible rfl
  rotate_left
  · simp only [Act.put, List.setIfInBounds_toArray, List.set_cons_zero, List.set_cons_succ, i64_w, i32_w]
    rfl
  refine take_ (i := 2) (N := some 12) (v := ?_) (a' := ?_) #[true, false, true, false, false, false, false, false] rfl rfl (by kernel_rfl) (fun _ _ _ h => h) (Or.inl ⟨by rfl, ?_⟩) hHeld ?_ ?_
  rotate_left
  · rintro w' ⟨s0, s1, s2, s3, s4, s5, s6, s7, s8, s9⟩
    go_simp
    with_reducible rfl
  rotate_left
  · simp only [Act.put, List.setIfInBounds_toArray, List.set_cons_zero, List.set_cons_succ, i64_w, i32_w]
    rfl
  refine join_ (σ := Option Addr × Nat × Option Addr × Nat × Option Addr × Nat × Option Addr × Nat × Nat × Nat) 2 #[true, true, true, true, true, true, false, false] (fun s_ => [(11, .agg (cE a0 a1 a2 (.slice s_.1 n s_.2.1) (.slice s_.2.2.1 m s_.2.2.2.1))), (13, .agg (cE b0 b1 b2 (.slice s_.2.2.2.2.1 p s_.2.2.2.2.2.1) (.slice s_.2.2.2.2.2.2.1 q s_.2.2.2.2.2.2.2.1))), (5, .pointer (some ⟨s_.2.2.2.2.2.2.2.2.1, 0, none⟩)), (6, .pointer (some ⟨s_.2.2.2.2.2.2.2.2.2, 0, none⟩))]) (fun s_ w' => (w'.cell? ⟨w.heap.size, 0, none⟩ = some (.int .i64 a0) ∧ w'.cell? ⟨w.heap.size, 1, none⟩ = some (.int .i64 a1) ∧ w'.cell? ⟨w.heap.size, 2, none⟩ = some (.int .u64 a2) ∧ w'.cell? ⟨w.heap.size, 3, none⟩ = some (.slice A3 n c3) ∧ w'.cell? ⟨w.heap.size, 4, none⟩ = some (.slice A4 m c4) ∧ w'.cell? ⟨w.heap.size + 1, 0, none⟩ = some (.int .i64 b0) ∧ w'.cell? ⟨w.heap.size + 1, 1, none⟩ = some (.int .i64 b1) ∧ w'.cell? ⟨w.heap.size + 1, 2, none⟩ = some (.int .u64 b2) ∧ w'.cell? ⟨w.heap.size + 1, 3, none⟩ = some (.slice B3 p d3) ∧ w'.cell? ⟨w.heap.size + 1, 4, none⟩ = some (.slice B4 q d4)) ∧ Below W0.heap.size W0 w' ∧ EdR w' w.heap.size (.slice s_.1 n s_.2.1) (.slice s_.2.2.1 m s_.2.2.2.1) aG aC ∧ EdR w' w.heap.size (.slice s_.2.2.2.2.1 p s_.2.2.2.2.2.1) (.slice s_.2.2.2.2.2.2.1 q s_.2.2.2.2.2.2.2.1) bG bC ∧ w'.heap[s_.2.2.2.2.2.2.2.2.1]? = some (.cells zE 31 (0, 0)) ∧ W0.heap.size ≤ s_.2.2.2.2.2.2.2.2.1 ∧ w'.heap[s_.2.2.2.2.2.2.2.2.2]? = some (.cells zE 31 (0, 0)) ∧ W0.heap.size ≤ s_.2.2.2.2.2.2.2.2.2 ∧ s_.2.2.2.2.2.2.2.2.1 ≠ s_.2.2.2.2.2.2.2.2.2) ?_ ?_
  rotate_left
  · intro hJ1_3_4_5
    refine join_ (σ := Option Addr × Nat × Option Addr × Nat × Option Addr × Nat × Option Addr × Nat × Nat) 3 #[true, true, true, true, true, false, false, false] (fun s_ => [(11, .agg (cE a0 a1 a2 (.slice s_.1 n s_.2.1) (.slice s_.2.2.1 m s_.2.2.2.1))), (13, .agg (cE b0 b1 b2 (.slice s_.2.2.2.2.1 p s_.2.2.2.2.2.1) (.slice s_.2.2.2.2.2.2.1 q s_.2.2.2.2.2.2.2.1))), (5, .pointer (some ⟨s_.2.2.2.2.2.2.2.2, 0, none⟩))]) (fun s_ w' => (w'.cell? ⟨w.heap.size, 0, none⟩ = some (.int .i64 a0) ∧ w'.cell? ⟨w.heap.size, 1, none⟩ = some (.int .i64 a1) ∧ w'.cell? ⟨w.heap.size, 2, none⟩ = some (.int .u64 a2) ∧ w'.cell? ⟨w.heap.size, 3, none⟩ = some (.slice A3 n c3) ∧ w'.cell? ⟨w.heap.size, 4, none⟩ = some (.slice A4 m c4) ∧ w'.cell? ⟨w.heap.size + 1, 0, none⟩ = some (.int .i64 b0) ∧ w'.cell? ⟨w.heap.size + 1, 1, none⟩ = some (.int .i64 b1) ∧ w'.cell? ⟨w.heap.size + 1, 2, none⟩ = some (.int .u64 b2) ∧ w'.cell? ⟨w.heap.size + 1, 3, none⟩ = some (.slice B3 p d3) ∧ w'.cell? ⟨w.heap.size + 1, 4, none⟩ = some (.slice B4 q d4)) ∧ Below W0.heap.size W0 w' ∧ EdR w' w.heap.size (.slice s_.1 n s_.2.1) (.slice s_.2.2.1 m s_.2.2.2.1) aG aC ∧ EdR w' w.heap.size (.slice s_.2.2.2.2.1 p s_.2.2.2.2.2.1) (.slice s_.2.2.2.2.2.2.1 q s_.2.2.2.2.2.2.2.1) bG bC ∧ w'.heap[s_.2.2.2.2.2.2.2.2]? = some (.cells zE 31 (0, 0)) ∧ W0.heap.size ≤ s_.2.2.2.2.2.2.2.2) ?_ ?_
    rotate_left
    · intro hJ1_3_4
      refine join_ (σ := Option Addr × Nat × Option Addr × Nat × Option Addr × Nat × Option Addr × Nat × Nat) 3 #[true, true, true, true, false, true, false, false] (fun s_ => [(11, .agg (cE a0 a1 a2 (.slice s_.1 n s_.2.1) (.slice s_.2.2.1 m s_.2.2.2.1))), (13, .agg (cE b0 b1 b2 (.slice s_.2.2.2.2.1 p s_.2.2.2.2.2.1) (.slice s_.2.2.2.2.2.2.1 q s_.2.2.2.2.2.2.2.1))), (6, .pointer (some ⟨s_.2.2.2.2.2.2.2.2, 0, none⟩))]) (fun s_ w' => (w'.cell? ⟨w.heap.size, 0, none⟩ = some (.int .i64 a0) ∧ w'.cell? ⟨w.heap.size, 1, none⟩ = some (.int .i64 a1) ∧ w'.cell? ⟨w.heap.size, 2, none⟩ = some (.int .u64 a2) ∧ w'.cell? ⟨w.heap.size, 3, none⟩ = some (.slice A3 n c3) ∧ w'.cell? ⟨w.heap.size, 4, none⟩ = some (.slice A4 m c4) ∧ w'.cell? ⟨w.heap.size + 1, 0, none⟩ = some (.int .i64 b0) ∧ w'.cell? ⟨w.heap.size + 1, 1, none⟩ = some (.int .i64 b1) ∧ w'.cell? ⟨w.heap.size + 1, 2, none⟩ = some (.int .u64 b2) ∧ w'.cell? ⟨w.heap.size + 1, 3, none⟩ = some (.slice B3 p d3) ∧ w'.cell? ⟨w.heap.size + 1, 4, none⟩ = some (.slice B4 q d4)) ∧ Below W0.heap.size W0 w' ∧ EdR w' w.heap.size (.slice s_.1 n s_.2.1) (.slice s_.2.2.1 m s_.2.2.2.1) aG aC ∧ EdR w' w.heap.size (.slice s_.2.2.2.2.1 p s_.2.2.2.2.2.1) (.slice s_.2.2.2.2.2.2.1 q s_.2.2.2.2.2.2.2.1) bG bC ∧ w'.heap[s_.2.2.2.2.2.2.2.2]? = some (.cells zE 31 (0, 0)) ∧ W0.heap.size ≤ s_.2.2.2.2.2.2.2.2) ?_ ?_
      rotate_left
      · intro hJ1_3_5
        refine join_ (σ := Option Addr × Nat × Option Addr × Nat × Nat × Nat) 3 #[true, true, true, false, true, true, false, false] (fun s_ => [(11, .agg (cE a0 a1 a2 (.slice s_.1 n s_.2.1) (.slice s_.2.2.1 m s_.2.2.2.1))), (5, .pointer (some ⟨s_.2.2.2.2.1, 0, none⟩)), (6, .pointer (some ⟨s_.2.2.2.2.2, 0, none⟩))]) (fun s_ w' => (w'.cell? ⟨w.heap.size, 0, none⟩ = some (.int .i64 a0) ∧ w'.cell? ⟨w.heap.size, 1, none⟩ = some (.int .i64 a1) ∧ w'.cell? ⟨w.heap.size, 2, none⟩ = some (.int .u64 a2) ∧ w'.cell? ⟨w.heap.size, 3, none⟩ = some (.slice A3 n c3) ∧ w'.cell? ⟨w.heap.size, 4, none⟩ = some (.slice A4 m c4) ∧ w'.cell? ⟨w.heap.size + 1, 0, none⟩ = some (.int .i64 b0) ∧ w'.cell? ⟨w.heap.size + 1, 1, none⟩ = some (.int .i64 b1) ∧ w'.cell? ⟨w.heap.size + 1, 2, none⟩ = some (.int .u64 b2) ∧ w'.cell? ⟨w.heap.size + 1, 3, none⟩ = some (.slice B3 p d3) ∧ w'.cell? ⟨w.heap.size + 1, 4, none⟩ = some (.slice B4 q d4)) ∧ Below W0.heap.size W0 w' ∧ EdR w' w.heap.size (.slice s_.1 n s_.2.1) (.slice s_.2.2.1 m s_.2.2.2.1) aG aC ∧ w'.heap[s_.2.2.2.2.1]? = some (.cells zE 31 (0, 0)) ∧ W0.heap.size ≤ s_.2.2.2.2.1 ∧ w'.heap[s_.2.2.2.2.2]? = some (.cells zE 31 (0, 0)) ∧ W0.heap.size ≤ s_.2.2.2.2.2 ∧ s_.2.2.2.2.1 ≠ s_.2.2.2.2.2) ?_ ?_
        rotate_left
        · intro hJ1_4_5
          refine join_ (σ := Option Addr × Nat × Option Addr × Nat × Option Addr × Nat × Option Addr × Nat) 4 #[true, true, true, true, false, false, false, false] (fun s_ => [(11, .agg (cE a0 a1 a2 (.slice s_.1 n s_.2.1) (.slice s_.2.2.1 m s_.2.2.2.1))), (13, .agg (cE b0 b1 b2 (.slice s_.2.2.2.2.1 p s_.2.2.2.2.2.1) (.slice s_.2.2.2.2.2.2.1 q s_.2.2.2.2.2.2.2)))]) (fun s_ w' => (w'.cell? ⟨w.heap.size, 0, none⟩ = some (.int .i64 a0) ∧ w'.cell? ⟨w.heap.size, 1, none⟩ = some (.int .i64 a1) ∧ w'.cell? ⟨w.heap.size, 2, none⟩ = some (.int .u64 a2) ∧ w'.cell? ⟨w.heap.size, 3, none⟩ = some (.slice A3 n c3) ∧ w'.cell? ⟨w.heap.size, 4, none⟩ = some (.slice A4 m c4) ∧ w'.cell? ⟨w.heap.size + 1, 0, none⟩ = some (.int .i64 b0) ∧ w'.cell? ⟨w.heap.size + 1, 1, none⟩ = some (.int .i64 b1) ∧ w'.cell? ⟨w.heap.size + 1, 2, none⟩ = some (.int .u64 b2) ∧ w'.cell? ⟨w.heap.size + 1, 3, none⟩ = some (.slice B3 p d3) ∧ w'.cell? ⟨w.heap.size + 1, 4, none⟩ = some (.slice B4 q d4)) ∧ Below W0.heap.size W0 w' ∧ EdR w' w.heap.size (.slice s_.1 n s_.2.1) (.slice s_.2.2.1 m s_.2.2.2.1) aG aC ∧ EdR w' w.heap.size (.slice s_.2.2.2.2.1 p s_.2.2.2.2.2.1) (.slice s_.2.2.2.2.2.2.1 q s_.2.2.2.2.2.2.2) bG bC) ?_ ?_
          rotate_left
          · intro hJ1_3
            refine join_ (σ := Option Addr × Nat × Option Addr × Nat × Nat) 4 #[true, true, true, false, true, false, false, false] (fun s_ => [(11, .agg (cE a0 a1 a2 (.slice s_.1 n s_.2.1) (.slice s_.2.2.1 m s_.2.2.2.1))), (5, .pointer (some ⟨s_.2.2.2.2, 0, none⟩))]) (fun s_ w' => (w'.cell? ⟨w.heap.size, 0, none⟩ = some (.int .i64 a0) ∧ w'.cell? ⟨w.heap.size, 1, none⟩ = some (.int .i64 a1) ∧ w'.cell? ⟨w.heap.size, 2, none⟩ = some (.int .u64 a2) ∧ w'.cell? ⟨w.heap.size, 3, none⟩ = some (.slice A3 n c3) ∧ w'.cell? ⟨w.heap.size, 4, none⟩ = some (.slice A4 m c4) ∧ w'.cell? ⟨w.heap.size + 1, 0, none⟩ = some (.int .i64 b0) ∧ w'.cell? ⟨w.heap.size + 1, 1, none⟩ = some (.int .i64 b1) ∧ w'.cell? ⟨w.heap.size + 1, 2, none⟩ = some (.int .u64 b2) ∧ w'.cell? ⟨w.heap.size + 1, 3, none⟩ = some (.slice B3 p d3) ∧ w'.cell? ⟨w.heap.size + 1, 4, none⟩ = some (.slice B4 q d4)) ∧ Below W0.heap.size W0 w' ∧ EdR w' w.heap.size (.slice s_.1 n s_.2.1) (.slice s_.2.2.1 m s_.2.2.2.1) aG aC ∧ w'.heap[s_.2.2.2.2]? = some (.cells zE 31 (0, 0)) ∧ W0.heap.size ≤ s_.2.2.2.2) ?_ ?_
            rotate_left
            · intro hJ1_4
              refine join_ (σ := Option Addr × Nat × Option Addr × Nat × Nat) 4 #[true, true, true, false, false, true, false, false] (fun s_ => [(11, .agg (cE a0 a1 a2 (.slice s_.1 n s_.2.1) (.slice s_.2.2.1 m s_.2.2.2.1))), (6, .pointer (some ⟨s_.2.2.2.2, 0, none⟩))]) (fun s_ w' => (w'.cell? ⟨w.heap.size, 0, none⟩ = some (.int .i64 a0) ∧ w'.cell? ⟨w.heap.size, 1, none⟩ = some (.int .i64 a1) ∧ w'.cell? ⟨w.heap.size, 2, none⟩ = some (.int .u64 a2) ∧ w'.cell? ⟨w.heap.size, 3, none⟩ = some (.slice A3 n c3) ∧ w'.cell? ⟨w.heap.size, 4, none⟩ = some (.slice A4 m c4) ∧ w'.cell? ⟨w.heap.size + 1, 0, none⟩ = some (.int .i64 b0) ∧ w'.cell? ⟨w.heap.size + 1, 1, none⟩ = some (.int .i64 b1) ∧ w'.cell? ⟨w.heap.size + 1, 2, none⟩ = some (.int .u64 b2) ∧ w'.cell? ⟨w.heap.size + 1, 3, none⟩ = some (.slice B3 p d3) ∧ w'.cell? ⟨w.heap.size + 1, 4, none⟩ = some (.slice B4 q d4)) ∧ Below W0.heap.size W0 w' ∧ EdR w' w.heap.size (.slice s_.1 n s_.2.1) (.slice s_.2.2.1 m s_.2.2.2.1) aG aC ∧ w'.heap[s_.2.2.2.2]? = some (.cells zE 31 (0, 0)) ∧ W0.heap.size ≤ s_.2.2.2.2) ?_ ?_
              rotate_left
              · intro hJ1_5
                refine join_ (σ := Nat × Nat) 4 #[true, false, true, false, true, true, false, false] (fun s_ => [(5, .pointer (some ⟨s_.1, 0, none⟩)), (6, .pointer (some ⟨s_.2, 0, none⟩))]) (fun s_ w' => (w'.cell? ⟨w.heap.size, 0, none⟩ = some (.int .i64 a0) ∧ w'.cell? ⟨w.heap.size, 1, none⟩ = some (.int .i64 a1) ∧ w'.cell? ⟨w.heap.size, 2, none⟩ = some (.int .u64 a2) ∧ w'.cell? ⟨w.heap.size, 3, none⟩ = some (.slice A3 n c3) ∧ w'.cell? ⟨w.heap.size, 4, none⟩ = some (.slice A4 m c4) ∧ w'.cell? ⟨w.heap.size + 1, 0, none⟩ = some (.int .i64 b0) ∧ w'.cell? ⟨w.heap.size + 1, 1, none⟩ = some (.int .i64 b1) ∧ w'.cell? ⟨w.heap.size + 1, 2, none⟩ = some (.int .u64 b2) ∧ w'.cell? ⟨w.heap.size + 1, 3, none⟩ = some (.slice B3 p d3) ∧ w'.cell? ⟨w.heap.size + 1, 4, none⟩ = some (.slice B4 q d4)) ∧ Below W0.heap.size W0 w' ∧ w'.heap[s_.1]? = some (.cells zE 31 (0, 0)) ∧ W0.heap.size ≤ s_.1 ∧ w'.heap[s_.2]? = some (.cells zE 31 (0, 0)) ∧ W0.heap.size ≤ s_.2 ∧ s_.1 ≠ s_.2) ?_ ?_
                rotate_left
                · intro hJ4_5
                  refine join_ (σ := Option Addr × Nat × Option Addr × Nat) 5 #[true, true, true, false, false, false, false, false] (fun s_ => [(11, .agg (cE a0 a1 a2 (.slice s_.1 n s_.2.1) (.slice s_.2.2.1 m s_.2.2.2)))]) (fun s_ w' => (w'.cell? ⟨w.heap.size, 0, none⟩ = some (.int .i64 a0) ∧ w'.cell? ⟨w.heap.size, 1, none⟩ = some (.int .i64 a1) ∧ w'.cell? ⟨w.heap.size, 2, none⟩ = some (.int .u64 a2) ∧ w'.cell? ⟨w.heap.size, 3, none⟩ = some (.slice A3 n c3) ∧ w'.cell? ⟨w.heap.size, 4, none⟩ = some (.slice A4 m c4) ∧ w'.cell? ⟨w.heap.size + 1, 0, none⟩ = some (.int .i64 b0) ∧ w'.cell? ⟨w.heap.size + 1, 1, none⟩ = some (.int .i64 b1) ∧ w'.cell? ⟨w.heap.size + 1, 2, none⟩ = some (.int .u64 b2) ∧ w'.cell? ⟨w.heap.size + 1, 3, none⟩ = some (.slice B3 p d3) ∧ w'.cell? ⟨w.heap.size + 1, 4, none⟩ = some (.slice B4 q d4)) ∧ Below W0.heap.size W0 w' ∧ EdR w' w.heap.size (.slice s_.1 n s_.2.1) (.slice s_.2.2.1 m s_.2.2.2) aG aC) ?_ ?_
                  rotate_left
                  · intro hJ1
                    refine join_ (σ := Nat) 5 #[true, false, true, false, true, false, false, false] (fun s_ => [(5, .pointer (some ⟨s_, 0, none⟩))]) (fun s_ w' => (w'.cell? ⟨w.heap.size, 0, none⟩ = some (.int .i64 a0) ∧ w'.cell? ⟨w.heap.size, 1, none⟩ = some (.int .i64 a1) ∧ w'.cell? ⟨w.heap.size, 2, none⟩ = some (.int .u64 a2) ∧ w'.cell? ⟨w.heap.size, 3, none⟩ = some (.slice A3 n c3) ∧ w'.cell? ⟨w.heap.size, 4, none⟩ = some (.slice A4 m c4) ∧ w'.cell? ⟨w.heap.size + 1, 0, none⟩ = some (.int .i64 b0) ∧ w'.cell? ⟨w.heap.size + 1, 1, none⟩ = some (.int .i64 b1) ∧ w'.cell? ⟨w.heap.size + 1, 2, none⟩ = some (.int .u64 b2) ∧ w'.cell? ⟨w.heap.size + 1, 3, none⟩ = some (.slice B3 p d3) ∧ w'.cell? ⟨w.heap.size + 1, 4, none⟩ = some (.slice B4 q d4)) ∧ Below W0.heap.size W0 w' ∧ w'.heap[s_]? = some (.cells zE 31 (0, 0)) ∧ W0.heap.size ≤ s_) ?_ ?_
                    rotate_left
                    · intro hJ4
                      refine join_ (σ := Nat) 5 #[true, false, true, false, false, true, false, false] (fun s_ => [(6, .pointer (some ⟨s_, 0, none⟩))]) (fun s_ w' => (w'.cell? ⟨w.heap.size, 0, none⟩ = some (.int .i64 a0) ∧ w'.cell? ⟨w.heap.size, 1, none⟩ = some (.int .i64 a1) ∧ w'.cell? ⟨w.heap.size, 2, none⟩ = some (.int .u64 a2) ∧ w'.cell? ⟨w.heap.size, 3, none⟩ = some (.slice A3 n c3) ∧ w'.cell? ⟨w.heap.size, 4, none⟩ = some (.slice A4 m c4) ∧ w'.cell? ⟨w.heap.size + 1, 0, none⟩ = some (.int .i64 b0) ∧ w'.cell? ⟨w.heap.size + 1, 1, none⟩ = some (.int .i64 b1) ∧ w'.cell? ⟨w.heap.size + 1, 2, none⟩ = some (.int .u64 b2) ∧ w'.cell? ⟨w.heap.size + 1, 3, none⟩ = some (.slice B3 p d3) ∧ w'.cell? ⟨w.heap.size + 1, 4, none⟩ = some (.slice B4 q d4)) ∧ Below W0.heap.size W0 w' ∧ w'.heap[s_]? = some (.cells zE 31 (0, 0)) ∧ W0.heap.size ≤ s_) ?_ ?_
                      rotate_left
                      · intro hJ5
                        refine three_ (i := 1) (j := 4) (k := 5) (Ni := some 11) (Nj := some 5) (Nk := some 6) #[true, true, true, false, false, false, false, false] #[true, false, true, false, true, false, false, false] #[true, false, true, false, false, true, false, false] rfl rfl rfl rfl rfl rfl (by kernel_rfl) (by decide) (by decide) (by decide) (fun K hK => ?_) (fun K hK => ?_) (fun K hK => ?_)
                        · skip
                          refine goes_ Try.func10 (by kernel_rfl) rfl #[.agg (cE a0 a1 a2 (.slice A3 n c3) (.slice A4 m c4))] (by rfl) rfl rfl (by simp only [List.map_toArray, List.map_cons, List.map_nil]; rfl) ?_
                          with_reducible refine (HCX.out _ (below_drew1 (Below.refl _ _))).mono ?_
                          rintro e wn ⟨X3, x3, X4, x4, rfl, hr, hb⟩
                          refine ⟨_, rfl, ?_⟩
                          have HBN := Aside0.mk (show Below W0.heap.size W0 wn from below_step (below_drew1 (Below.refl _ _)) hb)
                          have HE1 := Aside0.mk (hr.lower (below_size (below_step HB.out (below_drew1 (Below.refl _ _)))))
                          clear hr hb
                          refine hK.out _ _ ⟨pw_cell_below HBN.out u0, pw_cell_below HBN.out u1, pw_cell_below HBN.out u2, pw_cell_below HBN.out u3, pw_cell_below HBN.out u4, pw_cell_below HBN.out v0, pw_cell_below HBN.out v1, pw_cell_below HBN.out v2, pw_cell_below HBN.out v3, pw_cell_below HBN.out v4⟩ (fun hHeld => ?_)
                          clear hK K
                          refine norm_ (a' := ?_) ?_ ?_
                          rotate_left
                          · show Act.put _ (some 11) _ = _
                            simp only [Act.put, List.setIfInBounds_toArray, List.set_cons_zero, List.set_cons_succ, i64_w, i32_w]
                            rfl
                          exact norm_ (by first | (simp only [putAll, Act.put, List.setIfInBounds_toArray, List.set_cons_zero, List.set_cons_succ]; done) | (simp only [putAll, Act.put, List.setIfInBounds_toArray, List.set_cons_zero, List.set_cons_succ]; rfl)) (hJ1 (X3, x3, X4, x4) _ ⟨hHeld, HBN.out, HE1.out⟩)
                        · skip
                          refine box_step (by rfl) (N := 5) rfl (cs := zE) (t := 31) (by first | (go_simp; done) | (go_simp; rfl)) ?_
                          intro g5 hgo wn hbox hb
                          have HBN := Aside0.mk (show Below W0.heap.size W0 wn from below_step (below_drew1 (Below.refl _ _)) hb)
                          have HX4 := Aside0.mk hbox
                          have HG4 := Aside0.mk (show W0.heap.size ≤ g5 by rw [hgo]; exact below_size (below_drew1 (Below.refl _ _)))
                          clear hgo hbox hb
                          refine hK.out _ _ ⟨pw_cell_below HBN.out u0, pw_cell_below HBN.out u1, pw_cell_below HBN.out u2, pw_cell_below HBN.out u3, pw_cell_below HBN.out u4, pw_cell_below HBN.out v0, pw_cell_below HBN.out v1, pw_cell_below HBN.out v2, pw_cell_below HBN.out v3, pw_cell_below HBN.out v4⟩ (fun hHeld => ?_)
                          clear hK K
                          refine norm_ (a' := ?_) ?_ ?_
                          rotate_left
                          · show Act.put _ (some 5) _ = _
                            simp only [Act.put, List.setIfInBounds_toArray, List.set_cons_zero, List.set_cons_succ, i64_w, i32_w]
                            rfl
                          exact norm_ (by first | (simp only [putAll, Act.put, List.setIfInBounds_toArray, List.set_cons_zero, List.set_cons_succ]; done) | (simp only [putAll, Act.put, List.setIfInBounds_toArray, List.set_cons_zero, List.set_cons_succ]; rfl)) (hJ4 g5 _ ⟨hHeld, HBN.out, HX4.out, HG4.out⟩)
                        · skip
                          refine box_step (by rfl) (N := 6) rfl (cs := zE) (t := 31) (by first | (go_simp; done) | (go_simp; rfl)) ?_
                          intro g6 hgo wn hbox hb
                          have HBN := Aside0.mk (show Below W0.heap.size W0 wn from below_step (below_drew1 (Below.refl _ _)) hb)
                          have HX5 := Aside0.mk hbox
                          have HG5 := Aside0.mk (show W0.heap.size ≤ g6 by rw [hgo]; exact below_size (below_drew1 (Below.refl _ _)))
                          clear hgo hbox hb
                          refine hK.out _ _ ⟨pw_cell_below HBN.out u0, pw_cell_below HBN.out u1, pw_cell_below HBN.out u2, pw_cell_below HBN.out u3, pw_cell_below HBN.out u4, pw_cell_below HBN.out v0, pw_cell_below HBN.out v1, pw_cell_below HBN.out v2, pw_cell_below HBN.out v3, pw_cell_below HBN.out v4⟩ (fun hHeld => ?_)
                          clear hK K
                          refine norm_ (a' := ?_) ?_ ?_
                          rotate_left
                          · show Act.put _ (some 6) _ = _
                            simp only [Act.put, List.setIfInBounds_toArray, List.set_cons_zero, List.set_cons_succ, i64_w, i32_w]
                            rfl
                          exact norm_ (by first | (simp only [putAll, Act.put, List.setIfInBounds_toArray, List.set_cons_zero, List.set_cons_succ]; done) | (simp only [putAll, Act.put, List.setIfInBounds_toArray, List.set_cons_zero, List.set_cons_succ]; rfl)) (hJ5 g6 _ ⟨hHeld, HBN.out, HX5.out, HG5.out⟩)
                      · skip
                        rintro g6 wf ⟨hS_, h0_, h1_, h2_⟩
                        have HBW := Aside0.mk (show Below W0.heap.size W0 wf from h0_)
                        have HX5 := Aside0.mk (show wf.heap[g6]? = some (.cells zE 31 (0, 0)) from h1_)
                        have HG5 := Aside0.mk (show W0.heap.size ≤ g6 from h2_)
                        clear h0_ h1_ h2_
                        have hHeld := hS_
                        refine norm_ (a' := ?_) ?_ ?_
                        rotate_left
                        · simp only [putAll, Act.put, List.setIfInBounds_toArray, List.set_cons_zero, List.set_cons_succ]
                          rfl
                        refine two_ (i := 1) (j := 4) (Ni := some 11) (Nj := some 5) #[true, true, true, false, false, true, false, false] #[true, false, true, false, true, true, false, false] rfl rfl rfl rfl (by kernel_rfl) (by decide) (by decide) (fun K hK => ?_) (fun K hK => ?_)
                        · skip
                          refine goes_ Try.func10 (by kernel_rfl) rfl #[.agg (cE a0 a1 a2 (.slice A3 n c3) (.slice A4 m c4))] (by rfl) rfl rfl (by simp only [List.map_toArray, List.map_cons, List.map_nil]; rfl) ?_
                          with_reducible refine (HCX.out _ HBW.out).mono ?_
                          rintro e wn ⟨X3, x3, X4, x4, rfl, hr, hb⟩
                          refine ⟨_, rfl, ?_⟩
                          have HBN := Aside0.mk (show Below W0.heap.size W0 wn from below_step HBW.out hb)
                          have HX5 := Aside0.mk (blk_below HX5.out hb)
                          have HE1 := Aside0.mk (hr.lower (below_size (below_step HB.out HBW.out)))
                          clear hr hb
                          refine hK.out _ _ ⟨pw_cell_below HBN.out u0, pw_cell_below HBN.out u1, pw_cell_below HBN.out u2, pw_cell_below HBN.out u3, pw_cell_below HBN.out u4, pw_cell_below HBN.out v0, pw_cell_below HBN.out v1, pw_cell_below HBN.out v2, pw_cell_below HBN.out v3, pw_cell_below HBN.out v4⟩ (fun hHeld => ?_)
                          clear hK K
                          refine norm_ (a' := ?_) ?_ ?_
                          rotate_left
                          · show Act.put _ (some 11) _ = _
                            simp only [Act.put, List.setIfInBounds_toArray, List.set_cons_zero, List.set_cons_succ, i64_w, i32_w]
                            rfl
                          exact norm_ (by first | (simp only [putAll, Act.put, List.setIfInBounds_toArray, List.set_cons_zero, List.set_cons_succ]; done) | (simp only [putAll, Act.put, List.setIfInBounds_toArray, List.set_cons_zero, List.set_cons_succ]; rfl)) (hJ1_5 (X3, x3, X4, x4, g6) _ ⟨hHeld, HBN.out, HE1.out, HX5.out, HG5.out⟩)
                        · skip
                          refine box_step (by rfl) (N := 5) rfl (cs := zE) (t := 31) (by first | (go_simp; done) | (go_simp; rfl)) ?_
                          intro g5 hgo wn hbox hb
                          have HBN := Aside0.mk (show Below W0.heap.size W0 wn from below_step HBW.out hb)
                          have HNE := Aside0.mk (show g5 ≠ g6 by have h9 := blk_lt HX5.out; rw [hgo]; omega)
                          have HX5 := Aside0.mk (blk_below HX5.out hb)
                          have HX4 := Aside0.mk hbox
                          have HG4 := Aside0.mk (show W0.heap.size ≤ g5 by rw [hgo]; exact below_size HBW.out)
                          clear hgo hbox hb
                          refine hK.out _ _ ⟨pw_cell_below HBN.out u0, pw_cell_below HBN.out u1, pw_cell_below HBN.out u2, pw_cell_below HBN.out u3, pw_cell_below HBN.out u4, pw_cell_below HBN.out v0, pw_cell_below HBN.out v1, pw_cell_below HBN.out v2, pw_cell_below HBN.out v3, pw_cell_below HBN.out v4⟩ (fun hHeld => ?_)
                          clear hK K
                          refine norm_ (a' := ?_) ?_ ?_
                          rotate_left
                          · show Act.put _ (some 5) _ = _
                            simp only [Act.put, List.setIfInBounds_toArray, List.set_cons_zero, List.set_cons_succ, i64_w, i32_w]
                            rfl
                          exact norm_ (by first | (simp only [putAll, Act.put, List.setIfInBounds_toArray, List.set_cons_zero, List.set_cons_succ]; done) | (simp only [putAll, Act.put, List.setIfInBounds_toArray, List.set_cons_zero, List.set_cons_succ]; rfl)) (hJ4_5 (g5, g6) _ ⟨hHeld, HBN.out, HX4.out, HG4.out, HX5.out, HG5.out, HNE.out⟩)
                    · skip
                      rintro g5 wf ⟨hS_, h0_, h1_, h2_⟩
                      have HBW := Aside0.mk (show Below W0.heap.size W0 wf from h0_)
                      have HX4 := Aside0.mk (show wf.heap[g5]? = some (.cells zE 31 (0, 0)) from h1_)
                      have HG4 := Aside0.mk (show W0.heap.size ≤ g5 from h2_)
                      clear h0_ h1_ h2_
                      have hHeld := hS_
                      refine norm_ (a' := ?_) ?_ ?_
                      rotate_left
                      · simp only [putAll, Act.put, List.setIfInBounds_toArray, List.set_cons_zero, List.set_cons_succ]
                        rfl
                      refine two_ (i := 1) (j := 5) (Ni := some 11) (Nj := some 6) #[true, true, true, false, true, false, false, false] #[true, false, true, false, true, true, false, false] rfl rfl rfl rfl (by kernel_rfl) (by decide) (by decide) (fun K hK => ?_) (fun K hK => ?_)
                      · skip
                        refine goes_ Try.func10 (by kernel_rfl) rfl #[.agg (cE a0 a1 a2 (.slice A3 n c3) (.slice A4 m c4))] (by rfl) rfl rfl (by simp only [List.map_toArray, List.map_cons, List.map_nil]; rfl) ?_
                        with_reducible refine (HCX.out _ HBW.out).mono ?_
                        rintro e wn ⟨X3, x3, X4, x4, rfl, hr, hb⟩
                        refine ⟨_, rfl, ?_⟩
                        have HBN := Aside0.mk (show Below W0.heap.size W0 wn from below_step HBW.out hb)
                        have HX4 := Aside0.mk (blk_below HX4.out hb)
                        have HE1 := Aside0.mk (hr.lower (below_size (below_step HB.out HBW.out)))
                        clear hr hb
                        refine hK.out _ _ ⟨pw_cell_below HBN.out u0, pw_cell_below HBN.out u1, pw_cell_below HBN.out u2, pw_cell_below HBN.out u3, pw_cell_below HBN.out u4, pw_cell_below HBN.out v0, pw_cell_below HBN.out v1, pw_cell_below HBN.out v2, pw_cell_below HBN.out v3, pw_cell_below HBN.out v4⟩ (fun hHeld => ?_)
                        clear hK K
                        refine norm_ (a' := ?_) ?_ ?_
                        rotate_left
                        · show Act.put _ (some 11) _ = _
                          simp only [Act.put, List.setIfInBounds_toArray, List.set_cons_zero, List.set_cons_succ, i64_w, i32_w]
                          rfl
                        exact norm_ (by first | (simp only [putAll, Act.put, List.setIfInBounds_toArray, List.set_cons_zero, List.set_cons_succ]; done) | (simp only [putAll, Act.put, List.setIfInBounds_toArray, List.set_cons_zero, List.set_cons_succ]; rfl)) (hJ1_4 (X3, x3, X4, x4, g5) _ ⟨hHeld, HBN.out, HE1.out, HX4.out, HG4.out⟩)
                      · skip
                        refine box_step (by rfl) (N := 6) rfl (cs := zE) (t := 31) (by first | (go_simp; done) | (go_simp; rfl)) ?_
                        intro g6 hgo wn hbox hb
                        have HBN := Aside0.mk (show Below W0.heap.size W0 wn from below_step HBW.out hb)
                        have HNE := Aside0.mk (show g5 ≠ g6 by have h9 := blk_lt HX4.out; rw [hgo]; omega)
                        have HX4 := Aside0.mk (blk_below HX4.out hb)
                        have HX5 := Aside0.mk hbox
                        have HG5 := Aside0.mk (show W0.heap.size ≤ g6 by rw [hgo]; exact below_size HBW.out)
                        clear hgo hbox hb
                        refine hK.out _ _ ⟨pw_cell_below HBN.out u0, pw_cell_below HBN.out u1, pw_cell_below HBN.out u2, pw_cell_below HBN.out u3, pw_cell_below HBN.out u4, pw_cell_below HBN.out v0, pw_cell_below HBN.out v1, pw_cell_below HBN.out v2, pw_cell_below HBN.out v3, pw_cell_below HBN.out v4⟩ (fun hHeld => ?_)
                        clear hK K
                        refine norm_ (a' := ?_) ?_ ?_
                        rotate_left
                        · show Act.put _ (some 6) _ = _
                          simp only [Act.put, List.setIfInBounds_toArray, List.set_cons_zero, List.set_cons_succ, i64_w, i32_w]
                          rfl
                        exact norm_ (by first | (simp only [putAll, Act.put, List.setIfInBounds_toArray, List.set_cons_zero, List.set_cons_succ]; done) | (simp only [putAll, Act.put, List.setIfInBounds_toArray, List.set_cons_zero, List.set_cons_succ]; rfl)) (hJ4_5 (g5, g6) _ ⟨hHeld, HBN.out, HX4.out, HG4.out, HX5.out, HG5.out, HNE.out⟩)
                  · skip
                    rintro ⟨X3, x3, X4, x4⟩ wf ⟨hS_, h0_, h1_⟩
                    have HBW := Aside0.mk (show Below W0.heap.size W0 wf from h0_)
                    have HE1 := Aside0.mk (show EdR wf w.heap.size (.slice X3 n x3) (.slice X4 m x4) aG aC from h1_)
                    clear h0_ h1_
                    have hHeld := hS_
                    refine norm_ (a' := ?_) ?_ ?_
                    rotate_left
                    · simp only [putAll, Act.put, List.setIfInBounds_toArray, List.set_cons_zero, List.set_cons_succ]
                      rfl
                    refine three_ (i := 3) (j := 4) (k := 5) (Ni := some 13) (Nj := some 5) (Nk := some 6) #[true, true, true, true, false, false, false, false] #[true, true, true, false, true, false, false, false] #[true, true, true, false, false, true, false, false] rfl rfl rfl rfl rfl rfl (by kernel_rfl) (by decide) (by decide) (by decide) (fun K hK => ?_) (fun K hK => ?_) (fun K hK => ?_)
                    · skip
                      refine goes_ Try.func10 (by kernel_rfl) rfl #[.agg (cE b0 b1 b2 (.slice B3 p d3) (.slice B4 q d4))] (by rfl) rfl rfl (by simp only [List.map_toArray, List.map_cons, List.map_nil]; rfl) ?_
                      with_reducible refine (HCY.out _ HBW.out).mono ?_
                      rintro e wn ⟨Y3, y3, Y4, y4, rfl, hr, hb⟩
                      refine ⟨_, rfl, ?_⟩
                      have HBN := Aside0.mk (show Below W0.heap.size W0 wn from below_step HBW.out hb)
                      have HE1 := Aside0.mk (HE1.out.below hb)
                      have HE3 := Aside0.mk (hr.lower (below_size (below_step HB.out HBW.out)))
                      clear hr hb
                      refine hK.out _ _ ⟨pw_cell_below HBN.out u0, pw_cell_below HBN.out u1, pw_cell_below HBN.out u2, pw_cell_below HBN.out u3, pw_cell_below HBN.out u4, pw_cell_below HBN.out v0, pw_cell_below HBN.out v1, pw_cell_below HBN.out v2, pw_cell_below HBN.out v3, pw_cell_below HBN.out v4⟩ (fun hHeld => ?_)
                      clear hK K
                      refine norm_ (a' := ?_) ?_ ?_
                      rotate_left
                      · show Act.put _ (some 13) _ = _
                        simp only [Act.put, List.setIfInBounds_toArray, List.set_cons_zero, List.set_cons_succ, i64_w, i32_w]
                        rfl
                      exact norm_ (by first | (simp only [putAll, Act.put, List.setIfInBounds_toArray, List.set_cons_zero, List.set_cons_succ]; done) | (simp only [putAll, Act.put, List.setIfInBounds_toArray, List.set_cons_zero, List.set_cons_succ]; rfl)) (hJ1_3 (X3, x3, X4, x4, Y3, y3, Y4, y4) _ ⟨hHeld, HBN.out, HE1.out, HE3.out⟩)
                    · skip
                      refine box_step (by rfl) (N := 5) rfl (cs := zE) (t := 31) (by first | (go_simp; done) | (go_simp; rfl)) ?_
                      intro g5 hgo wn hbox hb
                      have HBN := Aside0.mk (show Below W0.heap.size W0 wn from below_step HBW.out hb)
                      have HE1 := Aside0.mk (HE1.out.below hb)
                      have HX4 := Aside0.mk hbox
                      have HG4 := Aside0.mk (show W0.heap.size ≤ g5 by rw [hgo]; exact below_size HBW.out)
                      clear hgo hbox hb
                      refine hK.out _ _ ⟨pw_cell_below HBN.out u0, pw_cell_below HBN.out u1, pw_cell_below HBN.out u2, pw_cell_below HBN.out u3, pw_cell_below HBN.out u4, pw_cell_below HBN.out v0, pw_cell_below HBN.out v1, pw_cell_below HBN.out v2, pw_cell_below HBN.out v3, pw_cell_below HBN.out v4⟩ (fun hHeld => ?_)
                      clear hK K
                      refine norm_ (a' := ?_) ?_ ?_
                      rotate_left
                      · show Act.put _ (some 5) _ = _
                        simp only [Act.put, List.setIfInBounds_toArray, List.set_cons_zero, List.set_cons_succ, i64_w, i32_w]
                        rfl
                      exact norm_ (by first | (simp only [putAll, Act.put, List.setIfInBounds_toArray, List.set_cons_zero, List.set_cons_succ]; done) | (simp only [putAll, Act.put, List.setIfInBounds_toArray, List.set_cons_zero, List.set_cons_succ]; rfl)) (hJ1_4 (X3, x3, X4, x4, g5) _ ⟨hHeld, HBN.out, HE1.out, HX4.out, HG4.out⟩)
                    · skip
                      refine box_step (by rfl) (N := 6) rfl (cs := zE) (t := 31) (by first | (go_simp; done) | (go_simp; rfl)) ?_
                      intro g6 hgo wn hbox hb
                      have HBN := Aside0.mk (show Below W0.heap.size W0 wn from below_step HBW.out hb)
                      have HE1 := Aside0.mk (HE1.out.below hb)
                      have HX5 := Aside0.mk hbox
                      have HG5 := Aside0.mk (show W0.heap.size ≤ g6 by rw [hgo]; exact below_size HBW.out)
                      clear hgo hbox hb
                      refine hK.out _ _ ⟨pw_cell_below HBN.out u0, pw_cell_below HBN.out u1, pw_cell_below HBN.out u2, pw_cell_below HBN.out u3, pw_cell_below HBN.out u4, pw_cell_below HBN.out v0, pw_cell_below HBN.out v1, pw_cell_below HBN.out v2, pw_cell_below HBN.out v3, pw_cell_below HBN.out v4⟩ (fun hHeld => ?_)
                      clear hK K
                      refine norm_ (a' := ?_) ?_ ?_
                      rotate_left
                      · show Act.put _ (some 6) _ = _
                        simp only [Act.put, List.setIfInBounds_toArray, List.set_cons_zero, List.set_cons_succ, i64_w, i32_w]
                        rfl
                      exact norm_ (by first | (simp only [putAll, Act.put, List.setIfInBounds_toArray, List.set_cons_zero, List.set_cons_succ]; done) | (simp only [putAll, Act.put, List.setIfInBounds_toArray, List.set_cons_zero, List.set_cons_succ]; rfl)) (hJ1_5 (X3, x3, X4, x4, g6) _ ⟨hHeld, HBN.out, HE1.out, HX5.out, HG5.out⟩)
                · skip
                  rintro ⟨g5, g6⟩ wf ⟨hS_, h0_, h1_, h2_, h3_, h4_, h5_⟩
                  have HBW := Aside0.mk (show Below W0.heap.size W0 wf from h0_)
                  have HX4 := Aside0.mk (show wf.heap[g5]? = some (.cells zE 31 (0, 0)) from h1_)
                  have HG4 := Aside0.mk (show W0.heap.size ≤ g5 from h2_)
                  have HX5 := Aside0.mk (show wf.heap[g6]? = some (.cells zE 31 (0, 0)) from h3_)
                  have HG5 := Aside0.mk (show W0.heap.size ≤ g6 from h4_)
                  have HNE := Aside0.mk (show g5 ≠ g6 from h5_)
                  clear h0_ h1_ h2_ h3_ h4_ h5_
                  have hHeld := hS_
                  refine norm_ (a' := ?_) ?_ ?_
                  rotate_left
                  · simp only [putAll, Act.put, List.setIfInBounds_toArray, List.set_cons_zero, List.set_cons_succ]
                    rfl
                  refine one_ (i := 1) (N := some 11) #[true, true, true, false, true, true, false, false] rfl rfl (by kernel_rfl) (by decide) (fun K hK => ?_)
                  refine goes_ Try.func10 (by kernel_rfl) rfl #[.agg (cE a0 a1 a2 (.slice A3 n c3) (.slice A4 m c4))] (by rfl) rfl rfl (by simp only [List.map_toArray, List.map_cons, List.map_nil]; rfl) ?_
                  with_reducible refine (HCX.out _ HBW.out).mono ?_
                  rintro e wn ⟨X3, x3, X4, x4, rfl, hr, hb⟩
                  refine ⟨_, rfl, ?_⟩
                  have HBN := Aside0.mk (show Below W0.heap.size W0 wn from below_step HBW.out hb)
                  have HX4 := Aside0.mk (blk_below HX4.out hb)
                  have HX5 := Aside0.mk (blk_below HX5.out hb)
                  have HE1 := Aside0.mk (hr.lower (below_size (below_step HB.out HBW.out)))
                  clear hr hb
                  refine hK.out _ _ ⟨pw_cell_below HBN.out u0, pw_cell_below HBN.out u1, pw_cell_below HBN.out u2, pw_cell_below HBN.out u3, pw_cell_below HBN.out u4, pw_cell_below HBN.out v0, pw_cell_below HBN.out v1, pw_cell_below HBN.out v2, pw_cell_below HBN.out v3, pw_cell_below HBN.out v4⟩ (fun hHeld => ?_)
                  clear hK K
                  refine norm_ (a' := ?_) ?_ ?_
                  rotate_left
                  · show Act.put _ (some 11) _ = _
                    simp only [Act.put, List.setIfInBounds_toArray, List.set_cons_zero, List.set_cons_succ, i64_w, i32_w]
                    rfl
                  exact norm_ (by first | (simp only [putAll, Act.put, List.setIfInBounds_toArray, List.set_cons_zero, List.set_cons_succ]; done) | (simp only [putAll, Act.put, List.setIfInBounds_toArray, List.set_cons_zero, List.set_cons_succ]; rfl)) (hJ1_4_5 (X3, x3, X4, x4, g5, g6) _ ⟨hHeld, HBN.out, HE1.out, HX4.out, HG4.out, HX5.out, HG5.out, HNE.out⟩)
              · skip
                rintro ⟨X3, x3, X4, x4, g6⟩ wf ⟨hS_, h0_, h1_, h2_, h3_⟩
                have HBW := Aside0.mk (show Below W0.heap.size W0 wf from h0_)
                have HE1 := Aside0.mk (show EdR wf w.heap.size (.slice X3 n x3) (.slice X4 m x4) aG aC from h1_)
                have HX5 := Aside0.mk (show wf.heap[g6]? = some (.cells zE 31 (0, 0)) from h2_)
                have HG5 := Aside0.mk (show W0.heap.size ≤ g6 from h3_)
                clear h0_ h1_ h2_ h3_
                have hHeld := hS_
                refine norm_ (a' := ?_) ?_ ?_
                rotate_left
                · simp only [putAll, Act.put, List.setIfInBounds_toArray, List.set_cons_zero, List.set_cons_succ]
                  rfl
                refine two_ (i := 3) (j := 4) (Ni := some 13) (Nj := some 5) #[true, true, true, true, false, true, false, false] #[true, true, true, false, true, true, false, false] rfl rfl rfl rfl (by kernel_rfl) (by decide) (by decide) (fun K hK => ?_) (fun K hK => ?_)
                · skip
                  refine goes_ Try.func10 (by kernel_rfl) rfl #[.agg (cE b0 b1 b2 (.slice B3 p d3) (.slice B4 q d4))] (by rfl) rfl rfl (by simp only [List.map_toArray, List.map_cons, List.map_nil]; rfl) ?_
                  with_reducible refine (HCY.out _ HBW.out).mono ?_
                  rintro e wn ⟨Y3, y3, Y4, y4, rfl, hr, hb⟩
                  refine ⟨_, rfl, ?_⟩
                  have HBN := Aside0.mk (show Below W0.heap.size W0 wn from below_step HBW.out hb)
                  have HE1 := Aside0.mk (HE1.out.below hb)
                  have HX5 := Aside0.mk (blk_below HX5.out hb)
                  have HE3 := Aside0.mk (hr.lower (below_size (below_step HB.out HBW.out)))
                  clear hr hb
                  refine hK.out _ _ ⟨pw_cell_below HBN.out u0, pw_cell_below HBN.out u1, pw_cell_below HBN.out u2, pw_cell_below HBN.out u3, pw_cell_below HBN.out u4, pw_cell_below HBN.out v0, pw_cell_below HBN.out v1, pw_cell_below HBN.out v2, pw_cell_below HBN.out v3, pw_cell_below HBN.out v4⟩ (fun hHeld => ?_)
                  clear hK K
                  refine norm_ (a' := ?_) ?_ ?_
                  rotate_left
                  · show Act.put _ (some 13) _ = _
                    simp only [Act.put, List.setIfInBounds_toArray, List.set_cons_zero, List.set_cons_succ, i64_w, i32_w]
                    rfl
                  exact norm_ (by first | (simp only [putAll, Act.put, List.setIfInBounds_toArray, List.set_cons_zero, List.set_cons_succ]; done) | (simp only [putAll, Act.put, List.setIfInBounds_toArray, List.set_cons_zero, List.set_cons_succ]; rfl)) (hJ1_3_5 (X3, x3, X4, x4, Y3, y3, Y4, y4, g6) _ ⟨hHeld, HBN.out, HE1.out, HE3.out, HX5.out, HG5.out⟩)
                · skip
                  refine box_step (by rfl) (N := 5) rfl (cs := zE) (t := 31) (by first | (go_simp; done) | (go_simp; rfl)) ?_
                  intro g5 hgo wn hbox hb
                  have HBN := Aside0.mk (show Below W0.heap.size W0 wn from below_step HBW.out hb)
                  have HNE := Aside0.mk (show g5 ≠ g6 by have h9 := blk_lt HX5.out; rw [hgo]; omega)
                  have HE1 := Aside0.mk (HE1.out.below hb)
                  have HX5 := Aside0.mk (blk_below HX5.out hb)
                  have HX4 := Aside0.mk hbox
                  have HG4 := Aside0.mk (show W0.heap.size ≤ g5 by rw [hgo]; exact below_size HBW.out)
                  clear hgo hbox hb
                  refine hK.out _ _ ⟨pw_cell_below HBN.out u0, pw_cell_below HBN.out u1, pw_cell_below HBN.out u2, pw_cell_below HBN.out u3, pw_cell_below HBN.out u4, pw_cell_below HBN.out v0, pw_cell_below HBN.out v1, pw_cell_below HBN.out v2, pw_cell_below HBN.out v3, pw_cell_below HBN.out v4⟩ (fun hHeld => ?_)
                  clear hK K
                  refine norm_ (a' := ?_) ?_ ?_
                  rotate_left
                  · show Act.put _ (some 5) _ = _
                    simp only [Act.put, List.setIfInBounds_toArray, List.set_cons_zero, List.set_cons_succ, i64_w, i32_w]
                    rfl
                  exact norm_ (by first | (simp only [putAll, Act.put, List.setIfInBounds_toArray, List.set_cons_zero, List.set_cons_succ]; done) | (simp only [putAll, Act.put, List.setIfInBounds_toArray, List.set_cons_zero, List.set_cons_succ]; rfl)) (hJ1_4_5 (X3, x3, X4, x4, g5, g6) _ ⟨hHeld, HBN.out, HE1.out, HX4.out, HG4.out, HX5.out, HG5.out, HNE.out⟩)
            · skip
              rintro ⟨X3, x3, X4, x4, g5⟩ wf ⟨hS_, h0_, h1_, h2_, h3_⟩
              have HBW := Aside0.mk (show Below W0.heap.size W0 wf from h0_)
              have HE1 := Aside0.mk (show EdR wf w.heap.size (.slice X3 n x3) (.slice X4 m x4) aG aC from h1_)
              have HX4 := Aside0.mk (show wf.heap[g5]? = some (.cells zE 31 (0, 0)) from h2_)
              have HG4 := Aside0.mk (show W0.heap.size ≤ g5 from h3_)
              clear h0_ h1_ h2_ h3_
              have hHeld := hS_
              refine norm_ (a' := ?_) ?_ ?_
              rotate_left
              · simp only [putAll, Act.put, List.setIfInBounds_toArray, List.set_cons_zero, List.set_cons_succ]
                rfl
              refine two_ (i := 3) (j := 5) (Ni := some 13) (Nj := some 6) #[true, true, true, true, true, false, false, false] #[true, true, true, false, true, true, false, false] rfl rfl rfl rfl (by kernel_rfl) (by decide) (by decide) (fun K hK => ?_) (fun K hK => ?_)
              · skip
                refine goes_ Try.func10 (by kernel_rfl) rfl #[.agg (cE b0 b1 b2 (.slice B3 p d3) (.slice B4 q d4))] (by rfl) rfl rfl (by simp only [List.map_toArray, List.map_cons, List.map_nil]; rfl) ?_
                with_reducible refine (HCY.out _ HBW.out).mono ?_
                rintro e wn ⟨Y3, y3, Y4, y4, rfl, hr, hb⟩
                refine ⟨_, rfl, ?_⟩
                have HBN := Aside0.mk (show Below W0.heap.size W0 wn from below_step HBW.out hb)
                have HE1 := Aside0.mk (HE1.out.below hb)
                have HX4 := Aside0.mk (blk_below HX4.out hb)
                have HE3 := Aside0.mk (hr.lower (below_size (below_step HB.out HBW.out)))
                clear hr hb
                refine hK.out _ _ ⟨pw_cell_below HBN.out u0, pw_cell_below HBN.out u1, pw_cell_below HBN.out u2, pw_cell_below HBN.out u3, pw_cell_below HBN.out u4, pw_cell_below HBN.out v0, pw_cell_below HBN.out v1, pw_cell_below HBN.out v2, pw_cell_below HBN.out v3, pw_cell_below HBN.out v4⟩ (fun hHeld => ?_)
                clear hK K
                refine norm_ (a' := ?_) ?_ ?_
                rotate_left
                · show Act.put _ (some 13) _ = _
                  simp only [Act.put, List.setIfInBounds_toArray, List.set_cons_zero, List.set_cons_succ, i64_w, i32_w]
                  rfl
                exact norm_ (by first | (simp only [putAll, Act.put, List.setIfInBounds_toArray, List.set_cons_zero, List.set_cons_succ]; done) | (simp only [putAll, Act.put, List.setIfInBounds_toArray, List.set_cons_zero, List.set_cons_succ]; rfl)) (hJ1_3_4 (X3, x3, X4, x4, Y3, y3, Y4, y4, g5) _ ⟨hHeld, HBN.out, HE1.out, HE3.out, HX4.out, HG4.out⟩)
              · skip
                refine box_step (by rfl) (N := 6) rfl (cs := zE) (t := 31) (by first | (go_simp; done) | (go_simp; rfl)) ?_
                intro g6 hgo wn hbox hb
                have HBN := Aside0.mk (show Below W0.heap.size W0 wn from below_step HBW.out hb)
                have HNE := Aside0.mk (show g5 ≠ g6 by have h9 := blk_lt HX4.out; rw [hgo]; omega)
                have HE1 := Aside0.mk (HE1.out.below hb)
                have HX4 := Aside0.mk (blk_below HX4.out hb)
                have HX5 := Aside0.mk hbox
                have HG5 := Aside0.mk (show W0.heap.size ≤ g6 by rw [hgo]; exact below_size HBW.out)
                clear hgo hbox hb
                refine hK.out _ _ ⟨pw_cell_below HBN.out u0, pw_cell_below HBN.out u1, pw_cell_below HBN.out u2, pw_cell_below HBN.out u3, pw_cell_below HBN.out u4, pw_cell_below HBN.out v0, pw_cell_below HBN.out v1, pw_cell_below HBN.out v2, pw_cell_below HBN.out v3, pw_cell_below HBN.out v4⟩ (fun hHeld => ?_)
                clear hK K
                refine norm_ (a' := ?_) ?_ ?_
                rotate_left
                · show Act.put _ (some 6) _ = _
                  simp only [Act.put, List.setIfInBounds_toArray, List.set_cons_zero, List.set_cons_succ, i64_w, i32_w]
                  rfl
                exact norm_ (by first | (simp only [putAll, Act.put, List.setIfInBounds_toArray, List.set_cons_zero, List.set_cons_succ]; done) | (simp only [putAll, Act.put, List.setIfInBounds_toArray, List.set_cons_zero, List.set_cons_succ]; rfl)) (hJ1_4_5 (X3, x3, X4, x4, g5, g6) _ ⟨hHeld, HBN.out, HE1.out, HX4.out, HG4.out, HX5.out, HG5.out, HNE.out⟩)
          · skip
            rintro ⟨X3, x3, X4, x4, Y3, y3, Y4, y4⟩ wf ⟨hS_, h0_, h1_, h2_⟩
            have HBW := Aside0.mk (show Below W0.heap.size W0 wf from h0_)
            have HE1 := Aside0.mk (show EdR wf w.heap.size (.slice X3 n x3) (.slice X4 m x4) aG aC from h1_)
            have HE3 := Aside0.mk (show EdR wf w.heap.size (.slice Y3 p y3) (.slice Y4 q y4) bG bC from h2_)
            clear h0_ h1_ h2_
            have hHeld := hS_
            refine norm_ (a' := ?_) ?_ ?_
            rotate_left
            · simp only [putAll, Act.put, List.setIfInBounds_toArray, List.set_cons_zero, List.set_cons_succ]
              rfl
            refine two_ (i := 4) (j := 5) (Ni := some 5) (Nj := some 6) #[true, true, true, true, true, false, false, false] #[true, true, true, true, false, true, false, false] rfl rfl rfl rfl (by kernel_rfl) (by decide) (by decide) (fun K hK => ?_) (fun K hK => ?_)
            · skip
              refine box_step (by rfl) (N := 5) rfl (cs := zE) (t := 31) (by first | (go_simp; done) | (go_simp; rfl)) ?_
              intro g5 hgo wn hbox hb
              have HBN := Aside0.mk (show Below W0.heap.size W0 wn from below_step HBW.out hb)
              have HE1 := Aside0.mk (HE1.out.below hb)
              have HE3 := Aside0.mk (HE3.out.below hb)
              have HX4 := Aside0.mk hbox
              have HG4 := Aside0.mk (show W0.heap.size ≤ g5 by rw [hgo]; exact below_size HBW.out)
              clear hgo hbox hb
              refine hK.out _ _ ⟨pw_cell_below HBN.out u0, pw_cell_below HBN.out u1, pw_cell_below HBN.out u2, pw_cell_below HBN.out u3, pw_cell_below HBN.out u4, pw_cell_below HBN.out v0, pw_cell_below HBN.out v1, pw_cell_below HBN.out v2, pw_cell_below HBN.out v3, pw_cell_below HBN.out v4⟩ (fun hHeld => ?_)
              clear hK K
              refine norm_ (a' := ?_) ?_ ?_
              rotate_left
              · show Act.put _ (some 5) _ = _
                simp only [Act.put, List.setIfInBounds_toArray, List.set_cons_zero, List.set_cons_succ, i64_w, i32_w]
                rfl
              exact norm_ (by first | (simp only [putAll, Act.put, List.setIfInBounds_toArray, List.set_cons_zero, List.set_cons_succ]; done) | (simp only [putAll, Act.put, List.setIfInBounds_toArray, List.set_cons_zero, List.set_cons_succ]; rfl)) (hJ1_3_4 (X3, x3, X4, x4, Y3, y3, Y4, y4, g5) _ ⟨hHeld, HBN.out, HE1.out, HE3.out, HX4.out, HG4.out⟩)
            · skip
              refine box_step (by rfl) (N := 6) rfl (cs := zE) (t := 31) (by first | (go_simp; done) | (go_simp; rfl)) ?_
              intro g6 hgo wn hbox hb
              have HBN := Aside0.mk (show Below W0.heap.size W0 wn from below_step HBW.out hb)
              have HE1 := Aside0.mk (HE1.out.below hb)
              have HE3 := Aside0.mk (HE3.out.below hb)
              have HX5 := Aside0.mk hbox
              have HG5 := Aside0.mk (show W0.heap.size ≤ g6 by rw [hgo]; exact below_size HBW.out)
              clear hgo hbox hb
              refine hK.out _ _ ⟨pw_cell_below HBN.out u0, pw_cell_below HBN.out u1, pw_cell_below HBN.out u2, pw_cell_below HBN.out u3, pw_cell_below HBN.out u4, pw_cell_below HBN.out v0, pw_cell_below HBN.out v1, pw_cell_below HBN.out v2, pw_cell_below HBN.out v3, pw_cell_below HBN.out v4⟩ (fun hHeld => ?_)
              clear hK K
              refine norm_ (a' := ?_) ?_ ?_
              rotate_left
              · show Act.put _ (some 6) _ = _
                simp only [Act.put, List.setIfInBounds_toArray, List.set_cons_zero, List.set_cons_succ, i64_w, i32_w]
                rfl
              exact norm_ (by first | (simp only [putAll, Act.put, List.setIfInBounds_toArray, List.set_cons_zero, List.set_cons_succ]; done) | (simp only [putAll, Act.put, List.setIfInBounds_toArray, List.set_cons_zero, List.set_cons_succ]; rfl)) (hJ1_3_5 (X3, x3, X4, x4, Y3, y3, Y4, y4, g6) _ ⟨hHeld, HBN.out, HE1.out, HE3.out, HX5.out, HG5.out⟩)
        · skip
          rintro ⟨X3, x3, X4, x4, g5, g6⟩ wf ⟨hS_, h0_, h1_, h2_, h3_, h4_, h5_, h6_⟩
          have HBW := Aside0.mk (show Below W0.heap.size W0 wf from h0_)
          have HE1 := Aside0.mk (show EdR wf w.heap.size (.slice X3 n x3) (.slice X4 m x4) aG aC from h1_)
          have HX4 := Aside0.mk (show wf.heap[g5]? = some (.cells zE 31 (0, 0)) from h2_)
          have HG4 := Aside0.mk (show W0.heap.size ≤ g5 from h3_)
          have HX5 := Aside0.mk (show wf.heap[g6]? = some (.cells zE 31 (0, 0)) from h4_)
          have HG5 := Aside0.mk (show W0.heap.size ≤ g6 from h5_)
          have HNE := Aside0.mk (show g5 ≠ g6 from h6_)
          clear h0_ h1_ h2_ h3_ h4_ h5_ h6_
          have hHeld := hS_
          refine norm_ (a' := ?_) ?_ ?_
          rotate_left
          · simp only [putAll, Act.put, List.setIfInBounds_toArray, List.set_cons_zero, List.set_cons_succ]
            rfl
          refine one_ (i := 3) (N := some 13) #[true, true, true, true, true, true, false, false] rfl rfl (by kernel_rfl) (by decide) (fun K hK => ?_)
          refine goes_ Try.func10 (by kernel_rfl) rfl #[.agg (cE b0 b1 b2 (.slice B3 p d3) (.slice B4 q d4))] (by rfl) rfl rfl (by simp only [List.map_toArray, List.map_cons, List.map_nil]; rfl) ?_
          with_reducible refine (HCY.out _ HBW.out).mono ?_
          rintro e wn ⟨Y3, y3, Y4, y4, rfl, hr, hb⟩
          refine ⟨_, rfl, ?_⟩
          have HBN := Aside0.mk (show Below W0.heap.size W0 wn from below_step HBW.out hb)
          have HE1 := Aside0.mk (HE1.out.below hb)
          have HX4 := Aside0.mk (blk_below HX4.out hb)
          have HX5 := Aside0.mk (blk_below HX5.out hb)
          have HE3 := Aside0.mk (hr.lower (below_size (below_step HB.out HBW.out)))
          clear hr hb
          refine hK.out _ _ ⟨pw_cell_below HBN.out u0, pw_cell_below HBN.out u1, pw_cell_below HBN.out u2, pw_cell_below HBN.out u3, pw_cell_below HBN.out u4, pw_cell_below HBN.out v0, pw_cell_below HBN.out v1, pw_cell_below HBN.out v2, pw_cell_below HBN.out v3, pw_cell_below HBN.out v4⟩ (fun hHeld => ?_)
          clear hK K
          refine norm_ (a' := ?_) ?_ ?_
          rotate_left
          · show Act.put _ (some 13) _ = _
            simp only [Act.put, List.setIfInBounds_toArray, List.set_cons_zero, List.set_cons_succ, i64_w, i32_w]
            rfl
          exact norm_ (by first | (simp only [putAll, Act.put, List.setIfInBounds_toArray, List.set_cons_zero, List.set_cons_succ]; done) | (simp only [putAll, Act.put, List.setIfInBounds_toArray, List.set_cons_zero, List.set_cons_succ]; rfl)) (hJ1_3_4_5 (X3, x3, X4, x4, Y3, y3, Y4, y4, g5, g6) _ ⟨hHeld, HBN.out, HE1.out, HE3.out, HX4.out, HG4.out, HX5.out, HG5.out, HNE.out⟩)
      · skip
        rintro ⟨X3, x3, X4, x4, Y3, y3, Y4, y4, g6⟩ wf ⟨hS_, h0_, h1_, h2_, h3_, h4_⟩
        have HBW := Aside0.mk (show Below W0.heap.size W0 wf from h0_)
        have HE1 := Aside0.mk (show EdR wf w.heap.size (.slice X3 n x3) (.slice X4 m x4) aG aC from h1_)
        have HE3 := Aside0.mk (show EdR wf w.heap.size (.slice Y3 p y3) (.slice Y4 q y4) bG bC from h2_)
        have HX5 := Aside0.mk (show wf.heap[g6]? = some (.cells zE 31 (0, 0)) from h3_)
        have HG5 := Aside0.mk (show W0.heap.size ≤ g6 from h4_)
        clear h0_ h1_ h2_ h3_ h4_
        have hHeld := hS_
        refine norm_ (a' := ?_) ?_ ?_
        rotate_left
        · simp only [putAll, Act.put, List.setIfInBounds_toArray, List.set_cons_zero, List.set_cons_succ]
          rfl
        refine one_ (i := 4) (N := some 5) #[true, true, true, true, true, true, false, false] rfl rfl (by kernel_rfl) (by decide) (fun K hK => ?_)
        refine box_step (by rfl) (N := 5) rfl (cs := zE) (t := 31) (by first | (go_simp; done) | (go_simp; rfl)) ?_
        intro g5 hgo wn hbox hb
        have HBN := Aside0.mk (show Below W0.heap.size W0 wn from below_step HBW.out hb)
        have HNE := Aside0.mk (show g5 ≠ g6 by have h9 := blk_lt HX5.out; rw [hgo]; omega)
        have HE1 := Aside0.mk (HE1.out.below hb)
        have HE3 := Aside0.mk (HE3.out.below hb)
        have HX5 := Aside0.mk (blk_below HX5.out hb)
        have HX4 := Aside0.mk hbox
        have HG4 := Aside0.mk (show W0.heap.size ≤ g5 by rw [hgo]; exact below_size HBW.out)
        clear hgo hbox hb
        refine hK.out _ _ ⟨pw_cell_below HBN.out u0, pw_cell_below HBN.out u1, pw_cell_below HBN.out u2, pw_cell_below HBN.out u3, pw_cell_below HBN.out u4, pw_cell_below HBN.out v0, pw_cell_below HBN.out v1, pw_cell_below HBN.out v2, pw_cell_below HBN.out v3, pw_cell_below HBN.out v4⟩ (fun hHeld => ?_)
        clear hK K
        refine norm_ (a' := ?_) ?_ ?_
        rotate_left
        · show Act.put _ (some 5) _ = _
          simp only [Act.put, List.setIfInBounds_toArray, List.set_cons_zero, List.set_cons_succ, i64_w, i32_w]
          rfl
        exact norm_ (by first | (simp only [putAll, Act.put, List.setIfInBounds_toArray, List.set_cons_zero, List.set_cons_succ]; done) | (simp only [putAll, Act.put, List.setIfInBounds_toArray, List.set_cons_zero, List.set_cons_succ]; rfl)) (hJ1_3_4_5 (X3, x3, X4, x4, Y3, y3, Y4, y4, g5, g6) _ ⟨hHeld, HBN.out, HE1.out, HE3.out, HX4.out, HG4.out, HX5.out, HG5.out, HNE.out⟩)
    · skip
      rintro ⟨X3, x3, X4, x4, Y3, y3, Y4, y4, g5⟩ wf ⟨hS_, h0_, h1_, h2_, h3_, h4_⟩
      have HBW := Aside0.mk (show Below W0.heap.size W0 wf from h0_)
      have HE1 := Aside0.mk (show EdR wf w.heap.size (.slice X3 n x3) (.slice X4 m x4) aG aC from h1_)
      have HE3 := Aside0.mk (show EdR wf w.heap.size (.slice Y3 p y3) (.slice Y4 q y4) bG bC from h2_)
      have HX4 := Aside0.mk (show wf.heap[g5]? = some (.cells zE 31 (0, 0)) from h3_)
      have HG4 := Aside0.mk (show W0.heap.size ≤ g5 from h4_)
      clear h0_ h1_ h2_ h3_ h4_
      have hHeld := hS_
      refine norm_ (a' := ?_) ?_ ?_
      rotate_left
      · simp only [putAll, Act.put, List.setIfInBounds_toArray, List.set_cons_zero, List.set_cons_succ]
        rfl
      refine one_ (i := 5) (N := some 6) #[true, true, true, true, true, true, false, false] rfl rfl (by kernel_rfl) (by decide) (fun K hK => ?_)
      refine box_step (by rfl) (N := 6) rfl (cs := zE) (t := 31) (by first | (go_simp; done) | (go_simp; rfl)) ?_
      intro g6 hgo wn hbox hb
      have HBN := Aside0.mk (show Below W0.heap.size W0 wn from below_step HBW.out hb)
      have HNE := Aside0.mk (show g5 ≠ g6 by have h9 := blk_lt HX4.out; rw [hgo]; omega)
      have HE1 := Aside0.mk (HE1.out.below hb)
      have HE3 := Aside0.mk (HE3.out.below hb)
      have HX4 := Aside0.mk (blk_below HX4.out hb)
      have HX5 := Aside0.mk hbox
      have HG5 := Aside0.mk (show W0.heap.size ≤ g6 by rw [hgo]; exact below_size HBW.out)
      clear hgo hbox hb
      refine hK.out _ _ ⟨pw_cell_below HBN.out u0, pw_cell_below HBN.out u1, pw_cell_below HBN.out u2, pw_cell_below HBN.out u3, pw_cell_below HBN.out u4, pw_cell_below HBN.out v0, pw_cell_below HBN.out v1, pw_cell_below HBN.out v2, pw_cell_below HBN.out v3, pw_cell_below HBN.out v4⟩ (fun hHeld => ?_)
      clear hK K
      refine norm_ (a' := ?_) ?_ ?_
      rotate_left
      · show Act.put _ (some 6) _ = _
        simp only [Act.put, List.setIfInBounds_toArray, List.set_cons_zero, List.set_cons_succ, i64_w, i32_w]
        rfl
      exact norm_ (by first | (simp only [putAll, Act.put, List.setIfInBounds_toArray, List.set_cons_zero, List.set_cons_succ]; done) | (simp only [putAll, Act.put, List.setIfInBounds_toArray, List.set_cons_zero, List.set_cons_succ]; rfl)) (hJ1_3_4_5 (X3, x3, X4, x4, Y3, y3, Y4, y4, g5, g6) _ ⟨hHeld, HBN.out, HE1.out, HE3.out, HX4.out, HG4.out, HX5.out, HG5.out, HNE.out⟩)
  rintro ⟨X3, x3, X4, x4, Y3, y3, Y4, y4, g5, g6⟩ wf ⟨hS_, h0_, h1_, h2_, h3_, h4_, h5_, h6_, h7_⟩
  have HBW := Aside0.mk (show Below W0.heap.size W0 wf from h0_)
  have HE1 := Aside0.mk (show EdR wf w.heap.size (.slice X3 n x3) (.slice X4 m x4) aG aC from h1_)
  have HE3 := Aside0.mk (show EdR wf w.heap.size (.slice Y3 p y3) (.slice Y4 q y4) bG bC from h2_)
  have HX4 := Aside0.mk (show wf.heap[g5]? = some (.cells zE 31 (0, 0)) from h3_)
  have HG4 := Aside0.mk (show W0.heap.size ≤ g5 from h4_)
  have HX5 := Aside0.mk (show wf.heap[g6]? = some (.cells zE 31 (0, 0)) from h5_)
  have HG5 := Aside0.mk (show W0.heap.size ≤ g6 from h6_)
  have HNE := Aside0.mk (show g5 ≠ g6 from h7_)
  clear h0_ h1_ h2_ h3_ h4_ h5_ h6_ h7_
  have o4_0 : wf.cell? ⟨g5, 0, none⟩ = some (.int .i64 0) := (blk_cell HX4.out 0).trans rfl
  have o4_1 : wf.cell? ⟨g5, 1, none⟩ = some (.int .i64 0) := (blk_cell HX4.out 1).trans rfl
  have o4_2 : wf.cell? ⟨g5, 2, none⟩ = some (.int .u64 0) := (blk_cell HX4.out 2).trans rfl
  have o4_3 : wf.cell? ⟨g5, 3, none⟩ = some (.slice none 0 0) := (blk_cell HX4.out 3).trans rfl
  have o4_4 : wf.cell? ⟨g5, 4, none⟩ = some (.slice none 0 0) := (blk_cell HX4.out 4).trans rfl
  have q4_0 := blk_frozen HX4.out 0
  have q4_1 := blk_frozen HX4.out 1
  have q4_2 := blk_frozen HX4.out 2
  have q4_3 := blk_frozen HX4.out 3
  have q4_4 := blk_frozen HX4.out 4
  have o5_0 : wf.cell? ⟨g6, 0, none⟩ = some (.int .i64 0) := (blk_cell HX5.out 0).trans rfl
  have o5_1 : wf.cell? ⟨g6, 1, none⟩ = some (.int .i64 0) := (blk_cell HX5.out 1).trans rfl
  have o5_2 : wf.cell? ⟨g6, 2, none⟩ = some (.int .u64 0) := (blk_cell HX5.out 2).trans rfl
  have o5_3 : wf.cell? ⟨g6, 3, none⟩ = some (.slice none 0 0) := (blk_cell HX5.out 3).trans rfl
  have o5_4 : wf.cell? ⟨g6, 4, none⟩ = some (.slice none 0 0) := (blk_cell HX5.out 4).trans rfl
  have q5_0 := blk_frozen HX5.out 0
  have q5_1 := blk_frozen HX5.out 1
  have q5_2 := blk_frozen HX5.out 2
  have q5_3 := blk_frozen HX5.out 3
  have q5_4 := blk_frozen HX5.out 4
  have eHNE := HNE.out
  have fHNE := Ne.symm HNE.out
  have hHeld := hS_
  refine norm_ (a' := ?_) ?_ ?_
  rotate_left
  · simp only [putAll, Act.put, List.setIfInBounds_toArray, List.set_cons_zero, List.set_cons_succ]
    rfl
  refine last_ (i := 6) (N := none) #[true, true, true, true, true, true, true, false] rfl rfl (by kernel_rfl) (by decide) (fun K hK => ?_)
  refine skip_ (w1 := ?_) (by rfl) rfl ?_ ?_
  rotate_left
  · go_simp
    rfl
  refine hK.out _ _ ?_
  clear hK K
  refine last_ (i := 7) (N := none) #[true, true, true, true, true, true, true, true] rfl rfl (by kernel_rfl) (by decide) (fun K hK => ?_)
  refine skip_ (w1 := ?_) (by rfl) rfl ?_ ?_
  rotate_left
  · go_simp
    rfl
  refine hK.out _ _ ?_
  clear hK K
  refine done_ (by kernel_rfl) ?_
  clear u0 u1 u2 u3 u4 v0 v1 v2 v3 v4 eHNE fHNE hHeld hS_ o4_0 o4_1 o4_2 o4_3 o4_4 o5_0 o5_1 o5_2 o5_3 o5_4 q4_0 q4_1 q4_2 q4_3 q4_4 q5_0 q5_1 q5_2 q5_3 q5_4
  have HT5 := Aside0.mk (told_far HX5.out (Ne.symm HNE.out) a0 a1 a2 (.slice X3 n x3) (.slice X4 m x4))
  have HKX := Aside0.mk (told_far (toldW_blk (x0 := a0) (x1 := a1) (x2 := a2) (vG := .slice X3 n x3) (vC := .slice X4 m x4) HX4.out) HNE.out b0 b1 b2 (.slice Y3 p y3) (.slice Y4 q y4))
  have HKY := Aside0.mk (toldW_blk (x0 := b0) (x1 := b1) (x2 := b2) (vG := .slice Y3 p y3) (vC := .slice Y4 q y4) HT5.out)
  have EX := Aside0.mk ((HE1.out.told HX4.out a0 a1 a2 (.slice X3 n x3) (.slice X4 m x4)).told HT5.out b0 b1 b2 (.slice Y3 p y3) (.slice Y4 q y4))
  have EY := Aside0.mk ((HE3.out.told HX4.out a0 a1 a2 (.slice X3 n x3) (.slice X4 m x4)).told HT5.out b0 b1 b2 (.slice Y3 p y3) (.slice Y4 q y4))
  have hw5 : w.heap.size + 2 ≤ g5 := by have h1 := HSZ.out; have h2 := HG4.out; omega
  have hw6 : w.heap.size + 2 ≤ g6 := by have h1 := HSZ.out; have h2 := HG5.out; omega
  have KA := Aside0.mk (told_far (told_far (blk_below BA.out HBW.out) (show w.heap.size ≠ g5 by omega) a0 a1 a2 (.slice X3 n x3) (.slice X4 m x4)) (show w.heap.size ≠ g6 by omega) b0 b1 b2 (.slice Y3 p y3) (.slice Y4 q y4))
  have KB := Aside0.mk (told_far (told_far (blk_below BB.out HBW.out) (show w.heap.size + 1 ≠ g5 by omega) a0 a1 a2 (.slice X3 n x3) (.slice X4 m x4)) (show w.heap.size + 1 ≠ g6 by omega) b0 b1 b2 (.slice Y3 p y3) (.slice Y4 q y4))
  have HB1 := Aside0.mk (told_below (told_below (below_step HB.out HBW.out) (show w.heap.size ≤ g5 by omega) a0 a1 a2 (.slice X3 n x3) (.slice X4 m x4)) (show w.heap.size ≤ g6 by omega) b0 b1 b2 (.slice Y3 p y3) (.slice Y4 q y4))
  obtain ⟨W1, hW1⟩ : ∃ W1, toldW (toldW wf g5 a0 a1 a2 (.slice X3 n x3) (.slice X4 m x4)) g6 b0 b1 b2 (.slice Y3 p y3) (.slice Y4 q y4) = W1 := ⟨_, rfl⟩
  rw [hW1] at HKX HKY EX EY KA KB HB1
  unfold toldW at hW1
  rw [hW1]
  clear hW1 HT5 HE1 HE3 HX4 HX5 HG4 HG5 HNE HBW HB BA BB HCX HCY hw5 hw6
  have u0 := blk_cell HKX.out 0
  have u1 := blk_cell HKX.out 1
  have u2 := blk_cell HKX.out 2
  have u3 := blk_cell HKX.out 3
  have u4 := blk_cell HKX.out 4
  have v0 := blk_cell HKY.out 0
  have v1 := blk_cell HKY.out 1
  have v2 := blk_cell HKY.out 2
  have v3' := blk_cell HKY.out 3
  have v4' := blk_cell HKY.out 4
  go_wp2_with fail
  refine start_ (n := 10) (S := fun w' => w'.cell? ⟨g5, 0, none⟩ = some (.int .i64 a0) ∧ w'.cell? ⟨g5, 1, none⟩ = some (.int .i64 a1) ∧ w'.cell? ⟨g5, 2, none⟩ = some (.int .u64 a2) ∧ w'.cell? ⟨g5, 3, none⟩ = some (.slice X3 n x3) ∧ w'.cell? ⟨g5, 4, none⟩ = some (.slice X4 m x4) ∧ w'.cell? ⟨g6, 0, none⟩ = some (.int .i64 b0) ∧ w'.cell? ⟨g6, 1, none⟩ = some (.int .i64 b1) ∧ w'.cell? ⟨g6, 2, none⟩ = some (.int .u64 b2) ∧ w'.cell? ⟨g6, 3, none⟩ = some (.slice Y3 p y3) ∧ w'.cell? ⟨g6, 4, none⟩ = some (.slice Y4 q y4)) (ds := [8, 9]) #[false, false, false, false, false, false, false, false, false, false] (by kernel_rfl) rfl rfl ⟨u0, u1, u2, u3, u4, v0, v1, v2, v3', v4'⟩ (fun hHeld => ?_)
  refine take_ (i := 0) (N := some 14) (v := ?_) (a' := ?_) #[true, false, false, false, false, false, false, false, false, false] rfl rfl (by kernel_rfl) (fun _ _ _ h => h) (Or.inl ⟨by rfl, ?_⟩) hHeld ?_ ?_
  rotate_left
  · rintro w' ⟨s0, s1, s2, s3, s4, s5, s6, s7, s8, s9⟩
    go_simp
    with_reducible rfl
  rotate_left
  · simp only [Act.put, List.setIfInBounds_toArray, List.set_cons_zero, List.set_cons_succ, i64_w, i32_w]
    rfl
  refine take_ (i := 1) (N := some 15) (v := ?_) (a' := ?_) #[true, true, false, false, false, false, false, false, false, false] rfl rfl (by kernel_rfl) (fun _ _ _ h => h) (Or.inl ⟨by rfl, ?_⟩) hHeld ?_ ?_
  rotate_left
  · rintro w' ⟨s0, s1, s2, s3, s4, s5, s6, s7, s8, s9⟩
    go_simp
    with_reducible rfl
  rotate_left
  · simp only [Act.put, List.setIfInBounds_toArray, List.set_cons_zero, List.set_cons_succ, i64_w, i32_w]
    rfl
  refine take_ (i := 3) (N := some 17) (v := ?_) (a' := ?_) #[true, true, false, true, false, false, false, false, false, false] rfl rfl (by kernel_rfl) (fun _ _ _ h => h) (Or.inl ⟨by rfl, ?_⟩) hHeld ?_ ?_
  rotate_left
  · rintro w' ⟨s0, s1, s2, s3, s4, s5, s6, s7, s8, s9⟩
    go_simp
    with_reducible rfl
  rotate_left
  · simp only [Act.put, List.setIfInBounds_toArray, List.set_cons_zero, List.set_cons_succ, i64_w, i32_w]
    rfl
  refine take_ (i := 4) (N := some 18) (v := ?_) (a' := ?_) #[true, true, false, true, true, false, false, false, false, false] rfl rfl (by kernel_rfl) (fun _ _ _ h => h) (Or.inl ⟨by rfl, ?_⟩) hHeld ?_ ?_
  rotate_left
  · rintro w' ⟨s0, s1, s2, s3, s4, s5, s6, s7, s8, s9⟩
    go_simp
    with_reducible rfl
  rotate_left
  · simp only [Act.put, List.setIfInBounds_toArray, List.set_cons_zero, List.set_cons_succ, i64_w, i32_w]
    rfl
  refine join_ (σ := Option Addr × Nat × Option Addr × Nat × Option Addr × Nat × Option Addr × Nat × Nat × Nat) 2 #[true, true, true, true, true, true, true, true, false, false] (fun s_ => [(16, .agg (cE M0 M1 M2 (.slice s_.1 rn s_.2.1) (.slice s_.2.2.1 rm s_.2.2.2.1))), (19, .agg (cE M0 M1 M2 (.slice s_.2.2.2.2.1 rn s_.2.2.2.2.2.1) (.slice s_.2.2.2.2.2.2.1 rm s_.2.2.2.2.2.2.2.1))), (7, .pointer (some ⟨s_.2.2.2.2.2.2.2.2.1, 0, none⟩)), (8, .pointer (some ⟨s_.2.2.2.2.2.2.2.2.2, 0, none⟩))]) (fun s_ w' => (w'.cell? ⟨g5, 0, none⟩ = some (.int .i64 a0) ∧ w'.cell? ⟨g5, 1, none⟩ = some (.int .i64 a1) ∧ w'.cell? ⟨g5, 2, none⟩ = some (.int .u64 a2) ∧ w'.cell? ⟨g5, 3, none⟩ = some (.slice X3 n x3) ∧ w'.cell? ⟨g5, 4, none⟩ = some (.slice X4 m x4) ∧ w'.cell? ⟨g6, 0, none⟩ = some (.int .i64 b0) ∧ w'.cell? ⟨g6, 1, none⟩ = some (.int .i64 b1) ∧ w'.cell? ⟨g6, 2, none⟩ = some (.int .u64 b2) ∧ w'.cell? ⟨g6, 3, none⟩ = some (.slice Y3 p y3) ∧ w'.cell? ⟨g6, 4, none⟩ = some (.slice Y4 q y4)) ∧ Below W1.heap.size W1 w' ∧ EdR w' W1.heap.size (.slice s_.1 rn s_.2.1) (.slice s_.2.2.1 rm s_.2.2.2.1) (mG aG aC bG) (mC aC bC bG) ∧ EdR w' W1.heap.size (.slice s_.2.2.2.2.1 rn s_.2.2.2.2.2.1) (.slice s_.2.2.2.2.2.2.1 rm s_.2.2.2.2.2.2.2.1) (mG aG aC bG) (mC aC bC bG) ∧ w'.heap[s_.2.2.2.2.2.2.2.2.1]? = some (.cells zE 31 (0, 0)) ∧ W1.heap.size ≤ s_.2.2.2.2.2.2.2.2.1 ∧ w'.heap[s_.2.2.2.2.2.2.2.2.2]? = some (.cells zE 31 (0, 0)) ∧ W1.heap.size ≤ s_.2.2.2.2.2.2.2.2.2 ∧ s_.2.2.2.2.2.2.2.2.1 ≠ s_.2.2.2.2.2.2.2.2.2 ∧ ApartV (.slice s_.1 rn s_.2.1) (.slice s_.2.2.1 rm s_.2.2.2.1) (.slice s_.2.2.2.2.1 rn s_.2.2.2.2.2.1) (.slice s_.2.2.2.2.2.2.1 rm s_.2.2.2.2.2.2.2.1)) ?_ ?_
  rotate_left
  · intro hJ2_5_6_7
    refine join_ (σ := Option Addr × Nat × Option Addr × Nat × Option Addr × Nat × Option Addr × Nat × Nat) 3 #[true, true, true, true, true, true, true, false, false, false] (fun s_ => [(16, .agg (cE M0 M1 M2 (.slice s_.1 rn s_.2.1) (.slice s_.2.2.1 rm s_.2.2.2.1))), (19, .agg (cE M0 M1 M2 (.slice s_.2.2.2.2.1 rn s_.2.2.2.2.2.1) (.slice s_.2.2.2.2.2.2.1 rm s_.2.2.2.2.2.2.2.1))), (7, .pointer (some ⟨s_.2.2.2.2.2.2.2.2, 0, none⟩))]) (fun s_ w' => (w'.cell? ⟨g5, 0, none⟩ = some (.int .i64 a0) ∧ w'.cell? ⟨g5, 1, none⟩ = some (.int .i64 a1) ∧ w'.cell? ⟨g5, 2, none⟩ = some (.int .u64 a2) ∧ w'.cell? ⟨g5, 3, none⟩ = some (.slice X3 n x3) ∧ w'.cell? ⟨g5, 4, none⟩ = some (.slice X4 m x4) ∧ w'.cell? ⟨g6, 0, none⟩ = some (.int .i64 b0) ∧ w'.cell? ⟨g6, 1, none⟩ = some (.int .i64 b1) ∧ w'.cell? ⟨g6, 2, none⟩ = some (.int .u64 b2) ∧ w'.cell? ⟨g6, 3, none⟩ = some (.slice Y3 p y3) ∧ w'.cell? ⟨g6, 4, none⟩ = some (.slice Y4 q y4)) ∧ Below W1.heap.size W1 w' ∧ EdR w' W1.heap.size (.slice s_.1 rn s_.2.1) (.slice s_.2.2.1 rm s_.2.2.2.1) (mG aG aC bG) (mC aC bC bG) ∧ EdR w' W1.heap.size (.slice s_.2.2.2.2.1 rn s_.2.2.2.2.2.1) (.slice s_.2.2.2.2.2.2.1 rm s_.2.2.2.2.2.2.2.1) (mG aG aC bG) (mC aC bC bG) ∧ w'.heap[s_.2.2.2.2.2.2.2.2]? = some (.cells zE 31 (0, 0)) ∧ W1.heap.size ≤ s_.2.2.2.2.2.2.2.2 ∧ ApartV (.slice s_.1 rn s_.2.1) (.slice s_.2.2.1 rm s_.2.2.2.1) (.slice s_.2.2.2.2.1 rn s_.2.2.2.2.2.1) (.slice s_.2.2.2.2.2.2.1 rm s_.2.2.2.2.2.2.2.1)) ?_ ?_
    rotate_left
    · intro hJ2_5_6
      refine join_ (σ := Option Addr × Nat × Option Addr × Nat × Option Addr × Nat × Option Addr × Nat × Nat) 3 #[true, true, true, true, true, true, false, true, false, false] (fun s_ => [(16, .agg (cE M0 M1 M2 (.slice s_.1 rn s_.2.1) (.slice s_.2.2.1 rm s_.2.2.2.1))), (19, .agg (cE M0 M1 M2 (.slice s_.2.2.2.2.1 rn s_.2.2.2.2.2.1) (.slice s_.2.2.2.2.2.2.1 rm s_.2.2.2.2.2.2.2.1))), (8, .pointer (some ⟨s_.2.2.2.2.2.2.2.2, 0, none⟩))]) (fun s_ w' => (w'.cell? ⟨g5, 0, none⟩ = some (.int .i64 a0) ∧ w'.cell? ⟨g5, 1, none⟩ = some (.int .i64 a1) ∧ w'.cell? ⟨g5, 2, none⟩ = some (.int .u64 a2) ∧ w'.cell? ⟨g5, 3, none⟩ = some (.slice X3 n x3) ∧ w'.cell? ⟨g5, 4, none⟩ = some (.slice X4 m x4) ∧ w'.cell? ⟨g6, 0, none⟩ = some (.int .i64 b0) ∧ w'.cell? ⟨g6, 1, none⟩ = some (.int .i64 b1) ∧ w'.cell? ⟨g6, 2, none⟩ = some (.int .u64 b2) ∧ w'.cell? ⟨g6, 3, none⟩ = some (.slice Y3 p y3) ∧ w'.cell? ⟨g6, 4, none⟩ = some (.slice Y4 q y4)) ∧ Below W1.heap.size W1 w' ∧ EdR w' W1.heap.size (.slice s_.1 rn s_.2.1) (.slice s_.2.2.1 rm s_.2.2.2.1) (mG aG aC bG) (mC aC bC bG) ∧ EdR w' W1.heap.size (.slice s_.2.2.2.2.1 rn s_.2.2.2.2.2.1) (.slice s_.2.2.2.2.2.2.1 rm s_.2.2.2.2.2.2.2.1) (mG aG aC bG) (mC aC bC bG) ∧ w'.heap[s_.2.2.2.2.2.2.2.2]? = some (.cells zE 31 (0, 0)) ∧ W1.heap.size ≤ s_.2.2.2.2.2.2.2.2 ∧ ApartV (.slice s_.1 rn s_.2.1) (.slice s_.2.2.1 rm s_.2.2.2.1) (.slice s_.2.2.2.2.1 rn s_.2.2.2.2.2.1) (.slice s_.2.2.2.2.2.2.1 rm s_.2.2.2.2.2.2.2.1)) ?_ ?_
      rotate_left
      · intro hJ2_5_7
        refine join_ (σ := Option Addr × Nat × Option Addr × Nat × Nat × Nat) 3 #[true, true, true, true, true, false, true, true, false, false] (fun s_ => [(16, .agg (cE M0 M1 M2 (.slice s_.1 rn s_.2.1) (.slice s_.2.2.1 rm s_.2.2.2.1))), (7, .pointer (some ⟨s_.2.2.2.2.1, 0, none⟩)), (8, .pointer (some ⟨s_.2.2.2.2.2, 0, none⟩))]) (fun s_ w' => (w'.cell? ⟨g5, 0, none⟩ = some (.int .i64 a0) ∧ w'.cell? ⟨g5, 1, none⟩ = some (.int .i64 a1) ∧ w'.cell? ⟨g5, 2, none⟩ = some (.int .u64 a2) ∧ w'.cell? ⟨g5, 3, none⟩ = some (.slice X3 n x3) ∧ w'.cell? ⟨g5, 4, none⟩ = some (.slice X4 m x4) ∧ w'.cell? ⟨g6, 0, none⟩ = some (.int .i64 b0) ∧ w'.cell? ⟨g6, 1, none⟩ = some (.int .i64 b1) ∧ w'.cell? ⟨g6, 2, none⟩ = some (.int .u64 b2) ∧ w'.cell? ⟨g6, 3, none⟩ = some (.slice Y3 p y3) ∧ w'.cell? ⟨g6, 4, none⟩ = some (.slice Y4 q y4)) ∧ Below W1.heap.size W1 w' ∧ EdR w' W1.heap.size (.slice s_.1 rn s_.2.1) (.slice s_.2.2.1 rm s_.2.2.2.1) (mG aG aC bG) (mC aC bC bG) ∧ w'.heap[s_.2.2.2.2.1]? = some (.cells zE 31 (0, 0)) ∧ W1.heap.size ≤ s_.2.2.2.2.1 ∧ w'.heap[s_.2.2.2.2.2]? = some (.cells zE 31 (0, 0)) ∧ W1.heap.size ≤ s_.2.2.2.2.2 ∧ s_.2.2.2.2.1 ≠ s_.2.2.2.2.2) ?_ ?_
        rotate_left
        · intro hJ2_6_7
          refine join_ (σ := Option Addr × Nat × Option Addr × Nat × Option Addr × Nat × Option Addr × Nat) 4 #[true, true, true, true, true, true, false, false, false, false] (fun s_ => [(16, .agg (cE M0 M1 M2 (.slice s_.1 rn s_.2.1) (.slice s_.2.2.1 rm s_.2.2.2.1))), (19, .agg (cE M0 M1 M2 (.slice s_.2.2.2.2.1 rn s_.2.2.2.2.2.1) (.slice s_.2.2.2.2.2.2.1 rm s_.2.2.2.2.2.2.2)))]) (fun s_ w' => (w'.cell? ⟨g5, 0, none⟩ = some (.int .i64 a0) ∧ w'.cell? ⟨g5, 1, none⟩ = some (.int .i64 a1) ∧ w'.cell? ⟨g5, 2, none⟩ = some (.int .u64 a2) ∧ w'.cell? ⟨g5, 3, none⟩ = some (.slice X3 n x3) ∧ w'.cell? ⟨g5, 4, none⟩ = some (.slice X4 m x4) ∧ w'.cell? ⟨g6, 0, none⟩ = some (.int .i64 b0) ∧ w'.cell? ⟨g6, 1, none⟩ = some (.int .i64 b1) ∧ w'.cell? ⟨g6, 2, none⟩ = some (.int .u64 b2) ∧ w'.cell? ⟨g6, 3, none⟩ = some (.slice Y3 p y3) ∧ w'.cell? ⟨g6, 4, none⟩ = some (.slice Y4 q y4)) ∧ Below W1.heap.size W1 w' ∧ EdR w' W1.heap.size (.slice s_.1 rn s_.2.1) (.slice s_.2.2.1 rm s_.2.2.2.1) (mG aG aC bG) (mC aC bC bG) ∧ EdR w' W1.heap.size (.slice s_.2.2.2.2.1 rn s_.2.2.2.2.2.1) (.slice s_.2.2.2.2.2.2.1 rm s_.2.2.2.2.2.2.2) (mG aG aC bG) (mC aC bC bG) ∧ ApartV (.slice s_.1 rn s_.2.1) (.slice s_.2.2.1 rm s_.2.2.2.1) (.slice s_.2.2.2.2.1 rn s_.2.2.2.2.2.1) (.slice s_.2.2.2.2.2.2.1 rm s_.2.2.2.2.2.2.2)) ?_ ?_
          rotate_left
          · intro hJ2_5
            refine join_ (σ := Option Addr × Nat × Option Addr × Nat × Nat) 4 #[true, true, true, true, true, false, true, false, false, false] (fun s_ => [(16, .agg (cE M0 M1 M2 (.slice s_.1 rn s_.2.1) (.slice s_.2.2.1 rm s_.2.2.2.1))), (7, .pointer (some ⟨s_.2.2.2.2, 0, none⟩))]) (fun s_ w' => (w'.cell? ⟨g5, 0, none⟩ = some (.int .i64 a0) ∧ w'.cell? ⟨g5, 1, none⟩ = some (.int .i64 a1) ∧ w'.cell? ⟨g5, 2, none⟩ = some (.int .u64 a2) ∧ w'.cell? ⟨g5, 3, none⟩ = some (.slice X3 n x3) ∧ w'.cell? ⟨g5, 4, none⟩ = some (.slice X4 m x4) ∧ w'.cell? ⟨g6, 0, none⟩ = some (.int .i64 b0) ∧ w'.cell? ⟨g6, 1, none⟩ = some (.int .i64 b1) ∧ w'.cell? ⟨g6, 2, none⟩ = some (.int .u64 b2) ∧ w'.cell? ⟨g6, 3, none⟩ = some (.slice Y3 p y3) ∧ w'.cell? ⟨g6, 4, none⟩ = some (.slice Y4 q y4)) ∧ Below W1.heap.size W1 w' ∧ EdR w' W1.heap.size (.slice s_.1 rn s_.2.1) (.slice s_.2.2.1 rm s_.2.2.2.1) (mG aG aC bG) (mC aC bC bG) ∧ w'.heap[s_.2.2.2.2]? = some (.cells zE 31 (0, 0)) ∧ W1.heap.size ≤ s_.2.2.2.2) ?_ ?_
            rotate_left
            · intro hJ2_6
              refine join_ (σ := Option Addr × Nat × Option Addr × Nat × Nat) 4 #[true, true, true, true, true, false, false, true, false, false] (fun s_ => [(16, .agg (cE M0 M1 M2 (.slice s_.1 rn s_.2.1) (.slice s_.2.2.1 rm s_.2.2.2.1))), (8, .pointer (some ⟨s_.2.2.2.2, 0, none⟩))]) (fun s_ w' => (w'.cell? ⟨g5, 0, none⟩ = some (.int .i64 a0) ∧ w'.cell? ⟨g5, 1, none⟩ = some (.int .i64 a1) ∧ w'.cell? ⟨g5, 2, none⟩ = some (.int .u64 a2) ∧ w'.cell? ⟨g5, 3, none⟩ = some (.slice X3 n x3) ∧ w'.cell? ⟨g5, 4, none⟩ = some (.slice X4 m x4) ∧ w'.cell? ⟨g6, 0, none⟩ = some (.int .i64 b0) ∧ w'.cell? ⟨g6, 1, none⟩ = some (.int .i64 b1) ∧ w'.cell? ⟨g6, 2, none⟩ = some (.int .u64 b2) ∧ w'.cell? ⟨g6, 3, none⟩ = some (.slice Y3 p y3) ∧ w'.cell? ⟨g6, 4, none⟩ = some (.slice Y4 q y4)) ∧ Below W1.heap.size W1 w' ∧ EdR w' W1.heap.size (.slice s_.1 rn s_.2.1) (.slice s_.2.2.1 rm s_.2.2.2.1) (mG aG aC bG) (mC aC bC bG) ∧ w'.heap[s_.2.2.2.2]? = some (.cells zE 31 (0, 0)) ∧ W1.heap.size ≤ s_.2.2.2.2) ?_ ?_
              rotate_left
              · intro hJ2_7
                refine join_ (σ := Nat × Nat) 4 #[true, true, false, true, true, false, true, true, false, false] (fun s_ => [(7, .pointer (some ⟨s_.1, 0, none⟩)), (8, .pointer (some ⟨s_.2, 0, none⟩))]) (fun s_ w' => (w'.cell? ⟨g5, 0, none⟩ = some (.int .i64 a0) ∧ w'.cell? ⟨g5, 1, none⟩ = some (.int .i64 a1) ∧ w'.cell? ⟨g5, 2, none⟩ = some (.int .u64 a2) ∧ w'.cell? ⟨g5, 3, none⟩ = some (.slice X3 n x3) ∧ w'.cell? ⟨g5, 4, none⟩ = some (.slice X4 m x4) ∧ w'.cell? ⟨g6, 0, none⟩ = some (.int .i64 b0) ∧ w'.cell? ⟨g6, 1, none⟩ = some (.int .i64 b1) ∧ w'.cell? ⟨g6, 2, none⟩ = some (.int .u64 b2) ∧ w'.cell? ⟨g6, 3, none⟩ = some (.slice Y3 p y3) ∧ w'.cell? ⟨g6, 4, none⟩ = some (.slice Y4 q y4)) ∧ Below W1.heap.size W1 w' ∧ w'.heap[s_.1]? = some (.cells zE 31 (0, 0)) ∧ W1.heap.size ≤ s_.1 ∧ w'.heap[s_.2]? = some (.cells zE 31 (0, 0)) ∧ W1.heap.size ≤ s_.2 ∧ s_.1 ≠ s_.2) ?_ ?_
                rotate_left
                · intro hJ6_7
                  refine join_ (σ := Option Addr × Nat × Option Addr × Nat) 5 #[true, true, true, true, true, false, false, false, false, false] (fun s_ => [(16, .agg (cE M0 M1 M2 (.slice s_.1 rn s_.2.1) (.slice s_.2.2.1 rm s_.2.2.2)))]) (fun s_ w' => (w'.cell? ⟨g5, 0, none⟩ = some (.int .i64 a0) ∧ w'.cell? ⟨g5, 1, none⟩ = some (.int .i64 a1) ∧ w'.cell? ⟨g5, 2, none⟩ = some (.int .u64 a2) ∧ w'.cell? ⟨g5, 3, none⟩ = some (.slice X3 n x3) ∧ w'.cell? ⟨g5, 4, none⟩ = some (.slice X4 m x4) ∧ w'.cell? ⟨g6, 0, none⟩ = some (.int .i64 b0) ∧ w'.cell? ⟨g6, 1, none⟩ = some (.int .i64 b1) ∧ w'.cell? ⟨g6, 2, none⟩ = some (.int .u64 b2) ∧ w'.cell? ⟨g6, 3, none⟩ = some (.slice Y3 p y3) ∧ w'.cell? ⟨g6, 4, none⟩ = some (.slice Y4 q y4)) ∧ Below W1.heap.size W1 w' ∧ EdR w' W1.heap.size (.slice s_.1 rn s_.2.1) (.slice s_.2.2.1 rm s_.2.2.2) (mG aG aC bG) (mC aC bC bG)) ?_ ?_
                  rotate_left
                  · intro hJ2
                    refine join_ (σ := Nat) 5 #[true, true, false, true, true, false, true, false, false, false] (fun s_ => [(7, .pointer (some ⟨s_, 0, none⟩))]) (fun s_ w' => (w'.cell? ⟨g5, 0, none⟩ = some (.int .i64 a0) ∧ w'.cell? ⟨g5, 1, none⟩ = some (.int .i64 a1) ∧ w'.cell? ⟨g5, 2, none⟩ = some (.int .u64 a2) ∧ w'.cell? ⟨g5, 3, none⟩ = some (.slice X3 n x3) ∧ w'.cell? ⟨g5, 4, none⟩ = some (.slice X4 m x4) ∧ w'.cell? ⟨g6, 0, none⟩ = some (.int .i64 b0) ∧ w'.cell? ⟨g6, 1, none⟩ = some (.int .i64 b1) ∧ w'.cell? ⟨g6, 2, none⟩ = some (.int .u64 b2) ∧ w'.cell? ⟨g6, 3, none⟩ = some (.slice Y3 p y3) ∧ w'.cell? ⟨g6, 4, none⟩ = some (.slice Y4 q y4)) ∧ Below W1.heap.size W1 w' ∧ w'.heap[s_]? = some (.cells zE 31 (0, 0)) ∧ W1.heap.size ≤ s_) ?_ ?_
                    rotate_left
                    · intro hJ6
                      refine join_ (σ := Nat) 5 #[true, true, false, true, true, false, false, true, false, false] (fun s_ => [(8, .pointer (some ⟨s_, 0, none⟩))]) (fun s_ w' => (w'.cell? ⟨g5, 0, none⟩ = some (.int .i64 a0) ∧ w'.cell? ⟨g5, 1, none⟩ = some (.int .i64 a1) ∧ w'.cell? ⟨g5, 2, none⟩ = some (.int .u64 a2) ∧ w'.cell? ⟨g5, 3, none⟩ = some (.slice X3 n x3) ∧ w'.cell? ⟨g5, 4, none⟩ = some (.slice X4 m x4) ∧ w'.cell? ⟨g6, 0, none⟩ = some (.int .i64 b0) ∧ w'.cell? ⟨g6, 1, none⟩ = some (.int .i64 b1) ∧ w'.cell? ⟨g6, 2, none⟩ = some (.int .u64 b2) ∧ w'.cell? ⟨g6, 3, none⟩ = some (.slice Y3 p y3) ∧ w'.cell? ⟨g6, 4, none⟩ = some (.slice Y4 q y4)) ∧ Below W1.heap.size W1 w' ∧ w'.heap[s_]? = some (.cells zE 31 (0, 0)) ∧ W1.heap.size ≤ s_) ?_ ?_
                      rotate_left
                      · intro hJ7
                        refine three_ (i := 2) (j := 6) (k := 7) (Ni := some 16) (Nj := some 7) (Nk := some 8) #[true, true, true, true, true, false, false, false, false, false] #[true, true, false, true, true, false, true, false, false, false] #[true, true, false, true, true, false, false, true, false, false] rfl rfl rfl rfl rfl rfl (by kernel_rfl) (by decide) (by decide) (by decide) (fun K hK => ?_) (fun K hK => ?_) (fun K hK => ?_)
                        · skip
                          refine goes_ Try.func11 (by kernel_rfl) rfl #[.agg (cE a0 a1 a2 (.slice X3 n x3) (.slice X4 m x4)), .agg (cE b0 b1 b2 (.slice Y3 p y3) (.slice Y4 q y4))] (by rfl) rfl rfl (by simp only [List.map_toArray, List.map_cons, List.map_nil]; rfl) ?_
                          with_reducible refine (HMG.out X3 x3 X4 x4 Y3 y3 Y4 y4 _ _ _ (EX.out.below (below_drew1 (Below.refl _ _))) (EY.out.below (below_drew1 (Below.refl _ _)))).mono ?_
                          rintro e wn ⟨Z3, z3, Z4, z4, rfl, hr, hb⟩
                          refine ⟨_, rfl, ?_⟩
                          have HBN := Aside0.mk (show Below W1.heap.size W1 wn from below_step (below_drew1 (Below.refl _ _)) hb)
                          have HE2 := Aside0.mk (hr.lower (below_size (below_drew1 (Below.refl _ _))))
                          clear hr hb
                          refine hK.out _ _ ⟨pw_cell_below HBN.out u0, pw_cell_below HBN.out u1, pw_cell_below HBN.out u2, pw_cell_below HBN.out u3, pw_cell_below HBN.out u4, pw_cell_below HBN.out v0, pw_cell_below HBN.out v1, pw_cell_below HBN.out v2, pw_cell_below HBN.out v3', pw_cell_below HBN.out v4'⟩ (fun hHeld => ?_)
                          clear hK K
                          refine norm_ (a' := ?_) ?_ ?_
                          rotate_left
                          · show Act.put _ (some 16) _ = _
                            simp only [Act.put, List.setIfInBounds_toArray, List.set_cons_zero, List.set_cons_succ, i64_w, i32_w]
                            rfl
                          exact norm_ (by first | (simp only [putAll, Act.put, List.setIfInBounds_toArray, List.set_cons_zero, List.set_cons_succ]; done) | (simp only [putAll, Act.put, List.setIfInBounds_toArray, List.set_cons_zero, List.set_cons_succ]; rfl)) (hJ2 (Z3, z3, Z4, z4) _ ⟨hHeld, HBN.out, HE2.out⟩)
                        · skip
                          refine box_step (by rfl) (N := 7) rfl (cs := zE) (t := 31) (by first | (go_simp; done) | (go_simp; rfl)) ?_
                          intro g7 hgo wn hbox hb
                          have HBN := Aside0.mk (show Below W1.heap.size W1 wn from below_step (below_drew1 (Below.refl _ _)) hb)
                          have HX6 := Aside0.mk hbox
                          have HG6 := Aside0.mk (show W1.heap.size ≤ g7 by rw [hgo]; exact below_size (below_drew1 (Below.refl _ _)))
                          clear hgo hbox hb
                          refine hK.out _ _ ⟨pw_cell_below HBN.out u0, pw_cell_below HBN.out u1, pw_cell_below HBN.out u2, pw_cell_below HBN.out u3, pw_cell_below HBN.out u4, pw_cell_below HBN.out v0, pw_cell_below HBN.out v1, pw_cell_below HBN.out v2, pw_cell_below HBN.out v3', pw_cell_below HBN.out v4'⟩ (fun hHeld => ?_)
                          clear hK K
                          refine norm_ (a' := ?_) ?_ ?_
                          rotate_left
                          · show Act.put _ (some 7) _ = _
                            simp only [Act.put, List.setIfInBounds_toArray, List.set_cons_zero, List.set_cons_succ, i64_w, i32_w]
                            rfl
                          exact norm_ (by first | (simp only [putAll, Act.put, List.setIfInBounds_toArray, List.set_cons_zero, List.set_cons_succ]; done) | (simp only [putAll, Act.put, List.setIfInBounds_toArray, List.set_cons_zero, List.set_cons_succ]; rfl)) (hJ6 g7 _ ⟨hHeld, HBN.out, HX6.out, HG6.out⟩)
                        · skip
                          refine box_step (by rfl) (N := 8) rfl (cs := zE) (t := 31) (by first | (go_simp; done) | (go_simp; rfl)) ?_
                          intro g8 hgo wn hbox hb
                          have HBN := Aside0.mk (show Below W1.heap.size W1 wn from below_step (below_drew1 (Below.refl _ _)) hb)
                          have HX7 := Aside0.mk hbox
                          have HG7 := Aside0.mk (show W1.heap.size ≤ g8 by rw [hgo]; exact below_size (below_drew1 (Below.refl _ _)))
                          clear hgo hbox hb
                          refine hK.out _ _ ⟨pw_cell_below HBN.out u0, pw_cell_below HBN.out u1, pw_cell_below HBN.out u2, pw_cell_below HBN.out u3, pw_cell_below HBN.out u4, pw_cell_below HBN.out v0, pw_cell_below HBN.out v1, pw_cell_below HBN.out v2, pw_cell_below HBN.out v3', pw_cell_below HBN.out v4'⟩ (fun hHeld => ?_)
                          clear hK K
                          refine norm_ (a' := ?_) ?_ ?_
                          rotate_left
                          · show Act.put _ (some 8) _ = _
                            simp only [Act.put, List.setIfInBounds_toArray, List.set_cons_zero, List.set_cons_succ, i64_w, i32_w]
                            rfl
                          exact norm_ (by first | (simp only [putAll, Act.put, List.setIfInBounds_toArray, List.set_cons_zero, List.set_cons_succ]; done) | (simp only [putAll, Act.put, List.setIfInBounds_toArray, List.set_cons_zero, List.set_cons_succ]; rfl)) (hJ7 g8 _ ⟨hHeld, HBN.out, HX7.out, HG7.out⟩)
                      · skip
                        rintro g8 wf ⟨hS_, h0_, h1_, h2_⟩
                        have HBW := Aside0.mk (show Below W1.heap.size W1 wf from h0_)
                        have HX7 := Aside0.mk (show wf.heap[g8]? = some (.cells zE 31 (0, 0)) from h1_)
                        have HG7 := Aside0.mk (show W1.heap.size ≤ g8 from h2_)
                        clear h0_ h1_ h2_
                        have hHeld := hS_
                        refine norm_ (a' := ?_) ?_ ?_
                        rotate_left
                        · simp only [putAll, Act.put, List.setIfInBounds_toArray, List.set_cons_zero, List.set_cons_succ]
                          rfl
                        refine two_ (i := 2) (j := 6) (Ni := some 16) (Nj := some 7) #[true, true, true, true, true, false, false, true, false, false] #[true, true, false, true, true, false, true, true, false, false] rfl rfl rfl rfl (by kernel_rfl) (by decide) (by decide) (fun K hK => ?_) (fun K hK => ?_)
                        · skip
                          refine goes_ Try.func11 (by kernel_rfl) rfl #[.agg (cE a0 a1 a2 (.slice X3 n x3) (.slice X4 m x4)), .agg (cE b0 b1 b2 (.slice Y3 p y3) (.slice Y4 q y4))] (by rfl) rfl rfl (by simp only [List.map_toArray, List.map_cons, List.map_nil]; rfl) ?_
                          with_reducible refine (HMG.out X3 x3 X4 x4 Y3 y3 Y4 y4 _ _ _ (EX.out.below HBW.out) (EY.out.below HBW.out)).mono ?_
                          rintro e wn ⟨Z3, z3, Z4, z4, rfl, hr, hb⟩
                          refine ⟨_, rfl, ?_⟩
                          have HBN := Aside0.mk (show Below W1.heap.size W1 wn from below_step HBW.out hb)
                          have HX7 := Aside0.mk (blk_below HX7.out hb)
                          have HE2 := Aside0.mk (hr.lower (below_size HBW.out))
                          clear hr hb
                          refine hK.out _ _ ⟨pw_cell_below HBN.out u0, pw_cell_below HBN.out u1, pw_cell_below HBN.out u2, pw_cell_below HBN.out u3, pw_cell_below HBN.out u4, pw_cell_below HBN.out v0, pw_cell_below HBN.out v1, pw_cell_below HBN.out v2, pw_cell_below HBN.out v3', pw_cell_below HBN.out v4'⟩ (fun hHeld => ?_)
                          clear hK K
                          refine norm_ (a' := ?_) ?_ ?_
                          rotate_left
                          · show Act.put _ (some 16) _ = _
                            simp only [Act.put, List.setIfInBounds_toArray, List.set_cons_zero, List.set_cons_succ, i64_w, i32_w]
                            rfl
                          exact norm_ (by first | (simp only [putAll, Act.put, List.setIfInBounds_toArray, List.set_cons_zero, List.set_cons_succ]; done) | (simp only [putAll, Act.put, List.setIfInBounds_toArray, List.set_cons_zero, List.set_cons_succ]; rfl)) (hJ2_7 (Z3, z3, Z4, z4, g8) _ ⟨hHeld, HBN.out, HE2.out, HX7.out, HG7.out⟩)
                        · skip
                          refine box_step (by rfl) (N := 7) rfl (cs := zE) (t := 31) (by first | (go_simp; done) | (go_simp; rfl)) ?_
                          intro g7 hgo wn hbox hb
                          have HBN := Aside0.mk (show Below W1.heap.size W1 wn from below_step HBW.out hb)
                          have HNE := Aside0.mk (show g7 ≠ g8 by have h9 := blk_lt HX7.out; rw [hgo]; omega)
                          have HX7 := Aside0.mk (blk_below HX7.out hb)
                          have HX6 := Aside0.mk hbox
                          have HG6 := Aside0.mk (show W1.heap.size ≤ g7 by rw [hgo]; exact below_size HBW.out)
                          clear hgo hbox hb
                          refine hK.out _ _ ⟨pw_cell_below HBN.out u0, pw_cell_below HBN.out u1, pw_cell_below HBN.out u2, pw_cell_below HBN.out u3, pw_cell_below HBN.out u4, pw_cell_below HBN.out v0, pw_cell_below HBN.out v1, pw_cell_below HBN.out v2, pw_cell_below HBN.out v3', pw_cell_below HBN.out v4'⟩ (fun hHeld => ?_)
                          clear hK K
                          refine norm_ (a' := ?_) ?_ ?_
                          rotate_left
                          · show Act.put _ (some 7) _ = _
                            simp only [Act.put, List.setIfInBounds_toArray, List.set_cons_zero, List.set_cons_succ, i64_w, i32_w]
                            rfl
                          exact norm_ (by first | (simp only [putAll, Act.put, List.setIfInBounds_toArray, List.set_cons_zero, List.set_cons_succ]; done) | (simp only [putAll, Act.put, List.setIfInBounds_toArray, List.set_cons_zero, List.set_cons_succ]; rfl)) (hJ6_7 (g7, g8) _ ⟨hHeld, HBN.out, HX6.out, HG6.out, HX7.out, HG7.out, HNE.out⟩)
                    · skip
                      rintro g7 wf ⟨hS_, h0_, h1_, h2_⟩
                      have HBW := Aside0.mk (show Below W1.heap.size W1 wf from h0_)
                      have HX6 := Aside0.mk (show wf.heap[g7]? = some (.cells zE 31 (0, 0)) from h1_)
                      have HG6 := Aside0.mk (show W1.heap.size ≤ g7 from h2_)
                      clear h0_ h1_ h2_
                      have hHeld := hS_
                      refine norm_ (a' := ?_) ?_ ?_
                      rotate_left
                      · simp only [putAll, Act.put, List.setIfInBounds_toArray, List.set_cons_zero, List.set_cons_succ]
                        rfl
                      refine two_ (i := 2) (j := 7) (Ni := some 16) (Nj := some 8) #[true, true, true, true, true, false, true, false, false, false] #[true, true, false, true, true, false, true, true, false, false] rfl rfl rfl rfl (by kernel_rfl) (by decide) (by decide) (fun K hK => ?_) (fun K hK => ?_)
                      · skip
                        refine goes_ Try.func11 (by kernel_rfl) rfl #[.agg (cE a0 a1 a2 (.slice X3 n x3) (.slice X4 m x4)), .agg (cE b0 b1 b2 (.slice Y3 p y3) (.slice Y4 q y4))] (by rfl) rfl rfl (by simp only [List.map_toArray, List.map_cons, List.map_nil]; rfl) ?_
                        with_reducible refine (HMG.out X3 x3 X4 x4 Y3 y3 Y4 y4 _ _ _ (EX.out.below HBW.out) (EY.out.below HBW.out)).mono ?_
                        rintro e wn ⟨Z3, z3, Z4, z4, rfl, hr, hb⟩
                        refine ⟨_, rfl, ?_⟩
                        have HBN := Aside0.mk (show Below W1.heap.size W1 wn from below_step HBW.out hb)
                        have HX6 := Aside0.mk (blk_below HX6.out hb)
                        have HE2 := Aside0.mk (hr.lower (below_size HBW.out))
                        clear hr hb
                        refine hK.out _ _ ⟨pw_cell_below HBN.out u0, pw_cell_below HBN.out u1, pw_cell_below HBN.out u2, pw_cell_below HBN.out u3, pw_cell_below HBN.out u4, pw_cell_below HBN.out v0, pw_cell_below HBN.out v1, pw_cell_below HBN.out v2, pw_cell_below HBN.out v3', pw_cell_below HBN.out v4'⟩ (fun hHeld => ?_)
                        clear hK K
                        refine norm_ (a' := ?_) ?_ ?_
                        rotate_left
                        · show Act.put _ (some 16) _ = _
                          simp only [Act.put, List.setIfInBounds_toArray, List.set_cons_zero, List.set_cons_succ, i64_w, i32_w]
                          rfl
                        exact norm_ (by first | (simp only [putAll, Act.put, List.setIfInBounds_toArray, List.set_cons_zero, List.set_cons_succ]; done) | (simp only [putAll, Act.put, List.setIfInBounds_toArray, List.set_cons_zero, List.set_cons_succ]; rfl)) (hJ2_6 (Z3, z3, Z4, z4, g7) _ ⟨hHeld, HBN.out, HE2.out, HX6.out, HG6.out⟩)
                      · skip
                        refine box_step (by rfl) (N := 8) rfl (cs := zE) (t := 31) (by first | (go_simp; done) | (go_simp; rfl)) ?_
                        intro g8 hgo wn hbox hb
                        have HBN := Aside0.mk (show Below W1.heap.size W1 wn from below_step HBW.out hb)
                        have HNE := Aside0.mk (show g7 ≠ g8 by have h9 := blk_lt HX6.out; rw [hgo]; omega)
                        have HX6 := Aside0.mk (blk_below HX6.out hb)
                        have HX7 := Aside0.mk hbox
                        have HG7 := Aside0.mk (show W1.heap.size ≤ g8 by rw [hgo]; exact below_size HBW.out)
                        clear hgo hbox hb
                        refine hK.out _ _ ⟨pw_cell_below HBN.out u0, pw_cell_below HBN.out u1, pw_cell_below HBN.out u2, pw_cell_below HBN.out u3, pw_cell_below HBN.out u4, pw_cell_below HBN.out v0, pw_cell_below HBN.out v1, pw_cell_below HBN.out v2, pw_cell_below HBN.out v3', pw_cell_below HBN.out v4'⟩ (fun hHeld => ?_)
                        clear hK K
                        refine norm_ (a' := ?_) ?_ ?_
                        rotate_left
                        · show Act.put _ (some 8) _ = _
                          simp only [Act.put, List.setIfInBounds_toArray, List.set_cons_zero, List.set_cons_succ, i64_w, i32_w]
                          rfl
                        exact norm_ (by first | (simp only [putAll, Act.put, List.setIfInBounds_toArray, List.set_cons_zero, List.set_cons_succ]; done) | (simp only [putAll, Act.put, List.setIfInBounds_toArray, List.set_cons_zero, List.set_cons_succ]; rfl)) (hJ6_7 (g7, g8) _ ⟨hHeld, HBN.out, HX6.out, HG6.out, HX7.out, HG7.out, HNE.out⟩)
                  · skip
                    rintro ⟨Z3, z3, Z4, z4⟩ wf ⟨hS_, h0_, h1_⟩
                    have HBW := Aside0.mk (show Below W1.heap.size W1 wf from h0_)
                    have HE2 := Aside0.mk (show EdR wf W1.heap.size (.slice Z3 rn z3) (.slice Z4 rm z4) (mG aG aC bG) (mC aC bC bG) from h1_)
                    clear h0_ h1_
                    have hHeld := hS_
                    refine norm_ (a' := ?_) ?_ ?_
                    rotate_left
                    · simp only [putAll, Act.put, List.setIfInBounds_toArray, List.set_cons_zero, List.set_cons_succ]
                      rfl
                    refine three_ (i := 5) (j := 6) (k := 7) (Ni := some 19) (Nj := some 7) (Nk := some 8) #[true, true, true, true, true, true, false, false, false, false] #[true, true, true, true, true, false, true, false, false, false] #[true, true, true, true, true, false, false, true, false, false] rfl rfl rfl rfl rfl rfl (by kernel_rfl) (by decide) (by decide) (by decide) (fun K hK => ?_) (fun K hK => ?_) (fun K hK => ?_)
                    · skip
                      refine goes_ Try.func11 (by kernel_rfl) rfl #[.agg (cE a0 a1 a2 (.slice X3 n x3) (.slice X4 m x4)), .agg (cE b0 b1 b2 (.slice Y3 p y3) (.slice Y4 q y4))] (by rfl) rfl rfl (by simp only [List.map_toArray, List.map_cons, List.map_nil]; rfl) ?_
                      with_reducible refine (HMG.out X3 x3 X4 x4 Y3 y3 Y4 y4 _ _ _ (EX.out.below HBW.out) (EY.out.below HBW.out)).mono ?_
                      rintro e wn ⟨V3, v3, V4, v4, rfl, hr, hb⟩
                      refine ⟨_, rfl, ?_⟩
                      have HBN := Aside0.mk (show Below W1.heap.size W1 wn from below_step HBW.out hb)
                      have HAP := Aside0.mk (HE2.out.apart hr)
                      have HE2 := Aside0.mk (HE2.out.below hb)
                      have HE5 := Aside0.mk (hr.lower (below_size HBW.out))
                      clear hr hb
                      refine hK.out _ _ ⟨pw_cell_below HBN.out u0, pw_cell_below HBN.out u1, pw_cell_below HBN.out u2, pw_cell_below HBN.out u3, pw_cell_below HBN.out u4, pw_cell_below HBN.out v0, pw_cell_below HBN.out v1, pw_cell_below HBN.out v2, pw_cell_below HBN.out v3', pw_cell_below HBN.out v4'⟩ (fun hHeld => ?_)
                      clear hK K
                      refine norm_ (a' := ?_) ?_ ?_
                      rotate_left
                      · show Act.put _ (some 19) _ = _
                        simp only [Act.put, List.setIfInBounds_toArray, List.set_cons_zero, List.set_cons_succ, i64_w, i32_w]
                        rfl
                      exact norm_ (by first | (simp only [putAll, Act.put, List.setIfInBounds_toArray, List.set_cons_zero, List.set_cons_succ]; done) | (simp only [putAll, Act.put, List.setIfInBounds_toArray, List.set_cons_zero, List.set_cons_succ]; rfl)) (hJ2_5 (Z3, z3, Z4, z4, V3, v3, V4, v4) _ ⟨hHeld, HBN.out, HE2.out, HE5.out, HAP.out⟩)
                    · skip
                      refine box_step (by rfl) (N := 7) rfl (cs := zE) (t := 31) (by first | (go_simp; done) | (go_simp; rfl)) ?_
                      intro g7 hgo wn hbox hb
                      have HBN := Aside0.mk (show Below W1.heap.size W1 wn from below_step HBW.out hb)
                      have HE2 := Aside0.mk (HE2.out.below hb)
                      have HX6 := Aside0.mk hbox
                      have HG6 := Aside0.mk (show W1.heap.size ≤ g7 by rw [hgo]; exact below_size HBW.out)
                      clear hgo hbox hb
                      refine hK.out _ _ ⟨pw_cell_below HBN.out u0, pw_cell_below HBN.out u1, pw_cell_below HBN.out u2, pw_cell_below HBN.out u3, pw_cell_below HBN.out u4, pw_cell_below HBN.out v0, pw_cell_below HBN.out v1, pw_cell_below HBN.out v2, pw_cell_below HBN.out v3', pw_cell_below HBN.out v4'⟩ (fun hHeld => ?_)
                      clear hK K
                      refine norm_ (a' := ?_) ?_ ?_
                      rotate_left
                      · show Act.put _ (some 7) _ = _
                        simp only [Act.put, List.setIfInBounds_toArray, List.set_cons_zero, List.set_cons_succ, i64_w, i32_w]
                        rfl
                      exact norm_ (by first | (simp only [putAll, Act.put, List.setIfInBounds_toArray, List.set_cons_zero, List.set_cons_succ]; done) | (simp only [putAll, Act.put, List.setIfInBounds_toArray, List.set_cons_zero, List.set_cons_succ]; rfl)) (hJ2_6 (Z3, z3, Z4, z4, g7) _ ⟨hHeld, HBN.out, HE2.out, HX6.out, HG6.out⟩)
                    · skip
                      refine box_step (by rfl) (N := 8) rfl (cs := zE) (t := 31) (by first | (go_simp; done) | (go_simp; rfl)) ?_
                      intro g8 hgo wn hbox hb
                      have HBN := Aside0.mk (show Below W1.heap.size W1 wn from below_step HBW.out hb)
                      have HE2 := Aside0.mk (HE2.out.below hb)
                      have HX7 := Aside0.mk hbox
                      have HG7 := Aside0.mk (show W1.heap.size ≤ g8 by rw [hgo]; exact below_size HBW.out)
                      clear hgo hbox hb
                      refine hK.out _ _ ⟨pw_cell_below HBN.out u0, pw_cell_below HBN.out u1, pw_cell_below HBN.out u2, pw_cell_below HBN.out u3, pw_cell_below HBN.out u4, pw_cell_below HBN.out v0, pw_cell_below HBN.out v1, pw_cell_below HBN.out v2, pw_cell_below HBN.out v3', pw_cell_below HBN.out v4'⟩ (fun hHeld => ?_)
                      clear hK K
                      refine norm_ (a' := ?_) ?_ ?_
                      rotate_left
                      · show Act.put _ (some 8) _ = _
                        simp only [Act.put, List.setIfInBounds_toArray, List.set_cons_zero, List.set_cons_succ, i64_w, i32_w]
                        rfl
                      exact norm_ (by first | (simp only [putAll, Act.put, List.setIfInBounds_toArray, List.set_cons_zero, List.set_cons_succ]; done) | (simp only [putAll, Act.put, List.setIfInBounds_toArray, List.set_cons_zero, List.set_cons_succ]; rfl)) (hJ2_7 (Z3, z3, Z4, z4, g8) _ ⟨hHeld, HBN.out, HE2.out, HX7.out, HG7.out⟩)
                · skip
                  rintro ⟨g7, g8⟩ wf ⟨hS_, h0_, h1_, h2_, h3_, h4_, h5_⟩
                  have HBW := Aside0.mk (show Below W1.heap.size W1 wf from h0_)
                  have HX6 := Aside0.mk (show wf.heap[g7]? = some (.cells zE 31 (0, 0)) from h1_)
                  have HG6 := Aside0.mk (show W1.heap.size ≤ g7 from h2_)
                  have HX7 := Aside0.mk (show wf.heap[g8]? = some (.cells zE 31 (0, 0)) from h3_)
                  have HG7 := Aside0.mk (show W1.heap.size ≤ g8 from h4_)
                  have HNE := Aside0.mk (show g7 ≠ g8 from h5_)
                  clear h0_ h1_ h2_ h3_ h4_ h5_
                  have hHeld := hS_
                  refine norm_ (a' := ?_) ?_ ?_
                  rotate_left
                  · simp only [putAll, Act.put, List.setIfInBounds_toArray, List.set_cons_zero, List.set_cons_succ]
                    rfl
                  refine one_ (i := 2) (N := some 16) #[true, true, true, true, true, false, true, true, false, false] rfl rfl (by kernel_rfl) (by decide) (fun K hK => ?_)
                  refine goes_ Try.func11 (by kernel_rfl) rfl #[.agg (cE a0 a1 a2 (.slice X3 n x3) (.slice X4 m x4)), .agg (cE b0 b1 b2 (.slice Y3 p y3) (.slice Y4 q y4))] (by rfl) rfl rfl (by simp only [List.map_toArray, List.map_cons, List.map_nil]; rfl) ?_
                  with_reducible refine (HMG.out X3 x3 X4 x4 Y3 y3 Y4 y4 _ _ _ (EX.out.below HBW.out) (EY.out.below HBW.out)).mono ?_
                  rintro e wn ⟨Z3, z3, Z4, z4, rfl, hr, hb⟩
                  refine ⟨_, rfl, ?_⟩
                  have HBN := Aside0.mk (show Below W1.heap.size W1 wn from below_step HBW.out hb)
                  have HX6 := Aside0.mk (blk_below HX6.out hb)
                  have HX7 := Aside0.mk (blk_below HX7.out hb)
                  have HE2 := Aside0.mk (hr.lower (below_size HBW.out))
                  clear hr hb
                  refine hK.out _ _ ⟨pw_cell_below HBN.out u0, pw_cell_below HBN.out u1, pw_cell_below HBN.out u2, pw_cell_below HBN.out u3, pw_cell_below HBN.out u4, pw_cell_below HBN.out v0, pw_cell_below HBN.out v1, pw_cell_below HBN.out v2, pw_cell_below HBN.out v3', pw_cell_below HBN.out v4'⟩ (fun hHeld => ?_)
                  clear hK K
                  refine norm_ (a' := ?_) ?_ ?_
                  rotate_left
                  · show Act.put _ (some 16) _ = _
                    simp only [Act.put, List.setIfInBounds_toArray, List.set_cons_zero, List.set_cons_succ, i64_w, i32_w]
                    rfl
                  exact norm_ (by first | (simp only [putAll, Act.put, List.setIfInBounds_toArray, List.set_cons_zero, List.set_cons_succ]; done) | (simp only [putAll, Act.put, List.setIfInBounds_toArray, List.set_cons_zero, List.set_cons_succ]; rfl)) (hJ2_6_7 (Z3, z3, Z4, z4, g7, g8) _ ⟨hHeld, HBN.out, HE2.out, HX6.out, HG6.out, HX7.out, HG7.out, HNE.out⟩)
              · skip
                rintro ⟨Z3, z3, Z4, z4, g8⟩ wf ⟨hS_, h0_, h1_, h2_, h3_⟩
                have HBW := Aside0.mk (show Below W1.heap.size W1 wf from h0_)
                have HE2 := Aside0.mk (show EdR wf W1.heap.size (.slice Z3 rn z3) (.slice Z4 rm z4) (mG aG aC bG) (mC aC bC bG) from h1_)
                have HX7 := Aside0.mk (show wf.heap[g8]? = some (.cells zE 31 (0, 0)) from h2_)
                have HG7 := Aside0.mk (show W1.heap.size ≤ g8 from h3_)
                clear h0_ h1_ h2_ h3_
                have hHeld := hS_
                refine norm_ (a' := ?_) ?_ ?_
                rotate_left
                · simp only [putAll, Act.put, List.setIfInBounds_toArray, List.set_cons_zero, List.set_cons_succ]
                  rfl
                refine two_ (i := 5) (j := 6) (Ni := some 19) (Nj := some 7) #[true, true, true, true, true, true, false, true, false, false] #[true, true, true, true, true, false, true, true, false, false] rfl rfl rfl rfl (by kernel_rfl) (by decide) (by decide) (fun K hK => ?_) (fun K hK => ?_)
                · skip
                  refine goes_ Try.func11 (by kernel_rfl) rfl #[.agg (cE a0 a1 a2 (.slice X3 n x3) (.slice X4 m x4)), .agg (cE b0 b1 b2 (.slice Y3 p y3) (.slice Y4 q y4))] (by rfl) rfl rfl (by simp only [List.map_toArray, List.map_cons, List.map_nil]; rfl) ?_
                  with_reducible refine (HMG.out X3 x3 X4 x4 Y3 y3 Y4 y4 _ _ _ (EX.out.below HBW.out) (EY.out.below HBW.out)).mono ?_
                  rintro e wn ⟨V3, v3, V4, v4, rfl, hr, hb⟩
                  refine ⟨_, rfl, ?_⟩
                  have HBN := Aside0.mk (show Below W1.heap.size W1 wn from below_step HBW.out hb)
                  have HAP := Aside0.mk (HE2.out.apart hr)
                  have HE2 := Aside0.mk (HE2.out.below hb)
                  have HX7 := Aside0.mk (blk_below HX7.out hb)
                  have HE5 := Aside0.mk (hr.lower (below_size HBW.out))
                  clear hr hb
                  refine hK.out _ _ ⟨pw_cell_below HBN.out u0, pw_cell_below HBN.out u1, pw_cell_below HBN.out u2, pw_cell_below HBN.out u3, pw_cell_below HBN.out u4, pw_cell_below HBN.out v0, pw_cell_below HBN.out v1, pw_cell_below HBN.out v2, pw_cell_below HBN.out v3', pw_cell_below HBN.out v4'⟩ (fun hHeld => ?_)
                  clear hK K
                  refine norm_ (a' := ?_) ?_ ?_
                  rotate_left
                  · show Act.put _ (some 19) _ = _
                    simp only [Act.put, List.setIfInBounds_toArray, List.set_cons_zero, List.set_cons_succ, i64_w, i32_w]
                    rfl
                  exact norm_ (by first | (simp only [putAll, Act.put, List.setIfInBounds_toArray, List.set_cons_zero, List.set_cons_succ]; done) | (simp only [putAll, Act.put, List.setIfInBounds_toArray, List.set_cons_zero, List.set_cons_succ]; rfl)) (hJ2_5_7 (Z3, z3, Z4, z4, V3, v3, V4, v4, g8) _ ⟨hHeld, HBN.out, HE2.out, HE5.out, HX7.out, HG7.out, HAP.out⟩)
                · skip
                  refine box_step (by rfl) (N := 7) rfl (cs := zE) (t := 31) (by first | (go_simp; done) | (go_simp; rfl)) ?_
                  intro g7 hgo wn hbox hb
                  have HBN := Aside0.mk (show Below W1.heap.size W1 wn from below_step HBW.out hb)
                  have HNE := Aside0.mk (show g7 ≠ g8 by have h9 := blk_lt HX7.out; rw [hgo]; omega)
                  have HE2 := Aside0.mk (HE2.out.below hb)
                  have HX7 := Aside0.mk (blk_below HX7.out hb)
                  have HX6 := Aside0.mk hbox
                  have HG6 := Aside0.mk (show W1.heap.size ≤ g7 by rw [hgo]; exact below_size HBW.out)
                  clear hgo hbox hb
                  refine hK.out _ _ ⟨pw_cell_below HBN.out u0, pw_cell_below HBN.out u1, pw_cell_below HBN.out u2, pw_cell_below HBN.out u3, pw_cell_below HBN.out u4, pw_cell_below HBN.out v0, pw_cell_below HBN.out v1, pw_cell_below HBN.out v2, pw_cell_below HBN.out v3', pw_cell_below HBN.out v4'⟩ (fun hHeld => ?_)
                  clear hK K
                  refine norm_ (a' := ?_) ?_ ?_
                  rotate_left
                  · show Act.put _ (some 7) _ = _
                    simp only [Act.put, List.setIfInBounds_toArray, List.set_cons_zero, List.set_cons_succ, i64_w, i32_w]
                    rfl
                  exact norm_ (by first | (simp only [putAll, Act.put, List.setIfInBounds_toArray, List.set_cons_zero, List.set_cons_succ]; done) | (simp only [putAll, Act.put, List.setIfInBounds_toArray, List.set_cons_zero, List.set_cons_succ]; rfl)) (hJ2_6_7 (Z3, z3, Z4, z4, g7, g8) _ ⟨hHeld, HBN.out, HE2.out, HX6.out, HG6.out, HX7.out, HG7.out, HNE.out⟩)
            · skip
              rintro ⟨Z3, z3, Z4, z4, g7⟩ wf ⟨hS_, h0_, h1_, h2_, h3_⟩
              have HBW := Aside0.mk (show Below W1.heap.size W1 wf from h0_)
              have HE2 := Aside0.mk (show EdR wf W1.heap.size (.slice Z3 rn z3) (.slice Z4 rm z4) (mG aG aC bG) (mC aC bC bG) from h1_)
              have HX6 := Aside0.mk (show wf.heap[g7]? = some (.cells zE 31 (0, 0)) from h2_)
              have HG6 := Aside0.mk (show W1.heap.size ≤ g7 from h3_)
              clear h0_ h1_ h2_ h3_
              have hHeld := hS_
              refine norm_ (a' := ?_) ?_ ?_
              rotate_left
              · simp only [putAll, Act.put, List.setIfInBounds_toArray, List.set_cons_zero, List.set_cons_succ]
                rfl
              refine two_ (i := 5) (j := 7) (Ni := some 19) (Nj := some 8) #[true, true, true, true, true, true, true, false, false, false] #[true, true, true, true, true, false, true, true, false, false] rfl rfl rfl rfl (by kernel_rfl) (by decide) (by decide) (fun K hK => ?_) (fun K hK => ?_)
              · skip
                refine goes_ Try.func11 (by kernel_rfl) rfl #[.agg (cE a0 a1 a2 (.slice X3 n x3) (.slice X4 m x4)), .agg (cE b0 b1 b2 (.slice Y3 p y3) (.slice Y4 q y4))] (by rfl) rfl rfl (by simp only [List.map_toArray, List.map_cons, List.map_nil]; rfl) ?_
                with_reducible refine (HMG.out X3 x3 X4 x4 Y3 y3 Y4 y4 _ _ _ (EX.out.below HBW.out) (EY.out.below HBW.out)).mono ?_
                rintro e wn ⟨V3, v3, V4, v4, rfl, hr, hb⟩
                refine ⟨_, rfl, ?_⟩
                have HBN := Aside0.mk (show Below W1.heap.size W1 wn from below_step HBW.out hb)
                have HAP := Aside0.mk (HE2.out.apart hr)
                have HE2 := Aside0.mk (HE2.out.below hb)
                have HX6 := Aside0.mk (blk_below HX6.out hb)
                have HE5 := Aside0.mk (hr.lower (below_size HBW.out))
                clear hr hb
                refine hK.out _ _ ⟨pw_cell_below HBN.out u0, pw_cell_below HBN.out u1, pw_cell_below HBN.out u2, pw_cell_below HBN.out u3, pw_cell_below HBN.out u4, pw_cell_below HBN.out v0, pw_cell_below HBN.out v1, pw_cell_below HBN.out v2, pw_cell_below HBN.out v3', pw_cell_below HBN.out v4'⟩ (fun hHeld => ?_)
                clear hK K
                refine norm_ (a' := ?_) ?_ ?_
                rotate_left
                · show Act.put _ (some 19) _ = _
                  simp only [Act.put, List.setIfInBounds_toArray, List.set_cons_zero, List.set_cons_succ, i64_w, i32_w]
                  rfl
                exact norm_ (by first | (simp only [putAll, Act.put, List.setIfInBounds_toArray, List.set_cons_zero, List.set_cons_succ]; done) | (simp only [putAll, Act.put, List.setIfInBounds_toArray, List.set_cons_zero, List.set_cons_succ]; rfl)) (hJ2_5_6 (Z3, z3, Z4, z4, V3, v3, V4, v4, g7) _ ⟨hHeld, HBN.out, HE2.out, HE5.out, HX6.out, HG6.out, HAP.out⟩)
              · skip
                refine box_step (by rfl) (N := 8) rfl (cs := zE) (t := 31) (by first | (go_simp; done) | (go_simp; rfl)) ?_
                intro g8 hgo wn hbox hb
                have HBN := Aside0.mk (show Below W1.heap.size W1 wn from below_step HBW.out hb)
                have HNE := Aside0.mk (show g7 ≠ g8 by have h9 := blk_lt HX6.out; rw [hgo]; omega)
                have HE2 := Aside0.mk (HE2.out.below hb)
                have HX6 := Aside0.mk (blk_below HX6.out hb)
                have HX7 := Aside0.mk hbox
                have HG7 := Aside0.mk (show W1.heap.size ≤ g8 by rw [hgo]; exact below_size HBW.out)
                clear hgo hbox hb
                refine hK.out _ _ ⟨pw_cell_below HBN.out u0, pw_cell_below HBN.out u1, pw_cell_below HBN.out u2, pw_cell_below HBN.out u3, pw_cell_below HBN.out u4, pw_cell_below HBN.out v0, pw_cell_below HBN.out v1, pw_cell_below HBN.out v2, pw_cell_below HBN.out v3', pw_cell_below HBN.out v4'⟩ (fun hHeld => ?_)
                clear hK K
                refine norm_ (a' := ?_) ?_ ?_
                rotate_left
                · show Act.put _ (some 8) _ = _
                  simp only [Act.put, List.setIfInBounds_toArray, List.set_cons_zero, List.set_cons_succ, i64_w, i32_w]
                  rfl
                exact norm_ (by first | (simp only [putAll, Act.put, List.setIfInBounds_toArray, List.set_cons_zero, List.set_cons_succ]; done) | (simp only [putAll, Act.put, List.setIfInBounds_toArray, List.set_cons_zero, List.set_cons_succ]; rfl)) (hJ2_6_7 (Z3, z3, Z4, z4, g7, g8) _ ⟨hHeld, HBN.out, HE2.out, HX6.out, HG6.out, HX7.out, HG7.out, HNE.out⟩)
          · skip
            rintro ⟨Z3, z3, Z4, z4, V3, v3, V4, v4⟩ wf ⟨hS_, h0_, h1_, h2_, h3_⟩
            have HBW := Aside0.mk (show Below W1.heap.size W1 wf from h0_)
            have HE2 := Aside0.mk (show EdR wf W1.heap.size (.slice Z3 rn z3) (.slice Z4 rm z4) (mG aG aC bG) (mC aC bC bG) from h1_)
            have HE5 := Aside0.mk (show EdR wf W1.heap.size (.slice V3 rn v3) (.slice V4 rm v4) (mG aG aC bG) (mC aC bC bG) from h2_)
            have HAP := Aside0.mk (show ApartV (.slice Z3 rn z3) (.slice Z4 rm z4) (.slice V3 rn v3) (.slice V4 rm v4) from h3_)
            clear h0_ h1_ h2_ h3_
            have hHeld := hS_
            refine norm_ (a' := ?_) ?_ ?_
            rotate_left
            · simp only [putAll, Act.put, List.setIfInBounds_toArray, List.set_cons_zero, List.set_cons_succ]
              rfl
            refine two_ (i := 6) (j := 7) (Ni := some 7) (Nj := some 8) #[true, true, true, true, true, true, true, false, false, false] #[true, true, true, true, true, true, false, true, false, false] rfl rfl rfl rfl (by kernel_rfl) (by decide) (by decide) (fun K hK => ?_) (fun K hK => ?_)
            · skip
              refine box_step (by rfl) (N := 7) rfl (cs := zE) (t := 31) (by first | (go_simp; done) | (go_simp; rfl)) ?_
              intro g7 hgo wn hbox hb
              have HBN := Aside0.mk (show Below W1.heap.size W1 wn from below_step HBW.out hb)
              have HE2 := Aside0.mk (HE2.out.below hb)
              have HE5 := Aside0.mk (HE5.out.below hb)
              have HX6 := Aside0.mk hbox
              have HG6 := Aside0.mk (show W1.heap.size ≤ g7 by rw [hgo]; exact below_size HBW.out)
              clear hgo hbox hb
              refine hK.out _ _ ⟨pw_cell_below HBN.out u0, pw_cell_below HBN.out u1, pw_cell_below HBN.out u2, pw_cell_below HBN.out u3, pw_cell_below HBN.out u4, pw_cell_below HBN.out v0, pw_cell_below HBN.out v1, pw_cell_below HBN.out v2, pw_cell_below HBN.out v3', pw_cell_below HBN.out v4'⟩ (fun hHeld => ?_)
              clear hK K
              refine norm_ (a' := ?_) ?_ ?_
              rotate_left
              · show Act.put _ (some 7) _ = _
                simp only [Act.put, List.setIfInBounds_toArray, List.set_cons_zero, List.set_cons_succ, i64_w, i32_w]
                rfl
              exact norm_ (by first | (simp only [putAll, Act.put, List.setIfInBounds_toArray, List.set_cons_zero, List.set_cons_succ]; done) | (simp only [putAll, Act.put, List.setIfInBounds_toArray, List.set_cons_zero, List.set_cons_succ]; rfl)) (hJ2_5_6 (Z3, z3, Z4, z4, V3, v3, V4, v4, g7) _ ⟨hHeld, HBN.out, HE2.out, HE5.out, HX6.out, HG6.out, HAP.out⟩)
            · skip
              refine box_step (by rfl) (N := 8) rfl (cs := zE) (t := 31) (by first | (go_simp; done) | (go_simp; rfl)) ?_
              intro g8 hgo wn hbox hb
              have HBN := Aside0.mk (show Below W1.heap.size W1 wn from below_step HBW.out hb)
              have HE2 := Aside0.mk (HE2.out.below hb)
              have HE5 := Aside0.mk (HE5.out.below hb)
              have HX7 := Aside0.mk hbox
              have HG7 := Aside0.mk (show W1.heap.size ≤ g8 by rw [hgo]; exact below_size HBW.out)
              clear hgo hbox hb
              refine hK.out _ _ ⟨pw_cell_below HBN.out u0, pw_cell_below HBN.out u1, pw_cell_below HBN.out u2, pw_cell_below HBN.out u3, pw_cell_below HBN.out u4, pw_cell_below HBN.out v0, pw_cell_below HBN.out v1, pw_cell_below HBN.out v2, pw_cell_below HBN.out v3', pw_cell_below HBN.out v4'⟩ (fun hHeld => ?_)
              clear hK K
              refine norm_ (a' := ?_) ?_ ?_
              rotate_left
              · show Act.put _ (some 8) _ = _
                simp only [Act.put, List.setIfInBounds_toArray, List.set_cons_zero, List.set_cons_succ, i64_w, i32_w]
                rfl
              exact norm_ (by first | (simp only [putAll, Act.put, List.setIfInBounds_toArray, List.set_cons_zero, List.set_cons_succ]; done) | (simp only [putAll, Act.put, List.setIfInBounds_toArray, List.set_cons_zero, List.set_cons_succ]; rfl)) (hJ2_5_7 (Z3, z3, Z4, z4, V3, v3, V4, v4, g8) _ ⟨hHeld, HBN.out, HE2.out, HE5.out, HX7.out, HG7.out, HAP.out⟩)
        · skip
          rintro ⟨Z3, z3, Z4, z4, g7, g8⟩ wf ⟨hS_, h0_, h1_, h2_, h3_, h4_, h5_, h6_⟩
          have HBW := Aside0.mk (show Below W1.heap.size W1 wf from h0_)
          have HE2 := Aside0.mk (show EdR wf W1.heap.size (.slice Z3 rn z3) (.slice Z4 rm z4) (mG aG aC bG) (mC aC bC bG) from h1_)
          have HX6 := Aside0.mk (show wf.heap[g7]? = some (.cells zE 31 (0, 0)) from h2_)
          have HG6 := Aside0.mk (show W1.heap.size ≤ g7 from h3_)
          have HX7 := Aside0.mk (show wf.heap[g8]? = some (.cells zE 31 (0, 0)) from h4_)
          have HG7 := Aside0.mk (show W1.heap.size ≤ g8 from h5_)
          have HNE := Aside0.mk (show g7 ≠ g8 from h6_)
          clear h0_ h1_ h2_ h3_ h4_ h5_ h6_
          have hHeld := hS_
          refine norm_ (a' := ?_) ?_ ?_
          rotate_left
          · simp only [putAll, Act.put, List.setIfInBounds_toArray, List.set_cons_zero, List.set_cons_succ]
            rfl
          refine one_ (i := 5) (N := some 19) #[true, true, true, true, true, true, true, true, false, false] rfl rfl (by kernel_rfl) (by decide) (fun K hK => ?_)
          refine goes_ Try.func11 (by kernel_rfl) rfl #[.agg (cE a0 a1 a2 (.slice X3 n x3) (.slice X4 m x4)), .agg (cE b0 b1 b2 (.slice Y3 p y3) (.slice Y4 q y4))] (by rfl) rfl rfl (by simp only [List.map_toArray, List.map_cons, List.map_nil]; rfl) ?_
          with_reducible refine (HMG.out X3 x3 X4 x4 Y3 y3 Y4 y4 _ _ _ (EX.out.below HBW.out) (EY.out.below HBW.out)).mono ?_
          rintro e wn ⟨V3, v3, V4, v4, rfl, hr, hb⟩
          refine ⟨_, rfl, ?_⟩
          have HBN := Aside0.mk (show Below W1.heap.size W1 wn from below_step HBW.out hb)
          have HAP := Aside0.mk (HE2.out.apart hr)
          have HE2 := Aside0.mk (HE2.out.below hb)
          have HX6 := Aside0.mk (blk_below HX6.out hb)
          have HX7 := Aside0.mk (blk_below HX7.out hb)
          have HE5 := Aside0.mk (hr.lower (below_size HBW.out))
          clear hr hb
          refine hK.out _ _ ⟨pw_cell_below HBN.out u0, pw_cell_below HBN.out u1, pw_cell_below HBN.out u2, pw_cell_below HBN.out u3, pw_cell_below HBN.out u4, pw_cell_below HBN.out v0, pw_cell_below HBN.out v1, pw_cell_below HBN.out v2, pw_cell_below HBN.out v3', pw_cell_below HBN.out v4'⟩ (fun hHeld => ?_)
          clear hK K
          refine norm_ (a' := ?_) ?_ ?_
          rotate_left
          · show Act.put _ (some 19) _ = _
            simp only [Act.put, List.setIfInBounds_toArray, List.set_cons_zero, List.set_cons_succ, i64_w, i32_w]
            rfl
          exact norm_ (by first | (simp only [putAll, Act.put, List.setIfInBounds_toArray, List.set_cons_zero, List.set_cons_succ]; done) | (simp only [putAll, Act.put, List.setIfInBounds_toArray, List.set_cons_zero, List.set_cons_succ]; rfl)) (hJ2_5_6_7 (Z3, z3, Z4, z4, V3, v3, V4, v4, g7, g8) _ ⟨hHeld, HBN.out, HE2.out, HE5.out, HX6.out, HG6.out, HX7.out, HG7.out, HNE.out, HAP.out⟩)
      · skip
        rintro ⟨Z3, z3, Z4, z4, V3, v3, V4, v4, g8⟩ wf ⟨hS_, h0_, h1_, h2_, h3_, h4_, h5_⟩
        have HBW := Aside0.mk (show Below W1.heap.size W1 wf from h0_)
        have HE2 := Aside0.mk (show EdR wf W1.heap.size (.slice Z3 rn z3) (.slice Z4 rm z4) (mG aG aC bG) (mC aC bC bG) from h1_)
        have HE5 := Aside0.mk (show EdR wf W1.heap.size (.slice V3 rn v3) (.slice V4 rm v4) (mG aG aC bG) (mC aC bC bG) from h2_)
        have HX7 := Aside0.mk (show wf.heap[g8]? = some (.cells zE 31 (0, 0)) from h3_)
        have HG7 := Aside0.mk (show W1.heap.size ≤ g8 from h4_)
        have HAP := Aside0.mk (show ApartV (.slice Z3 rn z3) (.slice Z4 rm z4) (.slice V3 rn v3) (.slice V4 rm v4) from h5_)
        clear h0_ h1_ h2_ h3_ h4_ h5_
        have hHeld := hS_
        refine norm_ (a' := ?_) ?_ ?_
        rotate_left
        · simp only [putAll, Act.put, List.setIfInBounds_toArray, List.set_cons_zero, List.set_cons_succ]
          rfl
        refine one_ (i := 6) (N := some 7) #[true, true, true, true, true, true, true, true, false, false] rfl rfl (by kernel_rfl) (by decide) (fun K hK => ?_)
        refine box_step (by rfl) (N := 7) rfl (cs := zE) (t := 31) (by first | (go_simp; done) | (go_simp; rfl)) ?_
        intro g7 hgo wn hbox hb
        have HBN := Aside0.mk (show Below W1.heap.size W1 wn from below_step HBW.out hb)
        have HNE := Aside0.mk (show g7 ≠ g8 by have h9 := blk_lt HX7.out; rw [hgo]; omega)
        have HE2 := Aside0.mk (HE2.out.below hb)
        have HE5 := Aside0.mk (HE5.out.below hb)
        have HX7 := Aside0.mk (blk_below HX7.out hb)
        have HX6 := Aside0.mk hbox
        have HG6 := Aside0.mk (show W1.heap.size ≤ g7 by rw [hgo]; exact below_size HBW.out)
        clear hgo hbox hb
        refine hK.out _ _ ⟨pw_cell_below HBN.out u0, pw_cell_below HBN.out u1, pw_cell_below HBN.out u2, pw_cell_below HBN.out u3, pw_cell_below HBN.out u4, pw_cell_below HBN.out v0, pw_cell_below HBN.out v1, pw_cell_below HBN.out v2, pw_cell_below HBN.out v3', pw_cell_below HBN.out v4'⟩ (fun hHeld => ?_)
        clear hK K
        refine norm_ (a' := ?_) ?_ ?_
        rotate_left
        · show Act.put _ (some 7) _ = _
          simp only [Act.put, List.setIfInBounds_toArray, List.set_cons_zero, List.set_cons_succ, i64_w, i32_w]
          rfl
        exact norm_ (by first | (simp only [putAll, Act.put, List.setIfInBounds_toArray, List.set_cons_zero, List.set_cons_succ]; done) | (simp only [putAll, Act.put, List.setIfInBounds_toArray, List.set_cons_zero, List.set_cons_succ]; rfl)) (hJ2_5_6_7 (Z3, z3, Z4, z4, V3, v3, V4, v4, g7, g8) _ ⟨hHeld, HBN.out, HE2.out, HE5.out, HX6.out, HG6.out, HX7.out, HG7.out, HNE.out, HAP.out⟩)
    · skip
      rintro ⟨Z3, z3, Z4, z4, V3, v3, V4, v4, g7⟩ wf ⟨hS_, h0_, h1_, h2_, h3_, h4_, h5_⟩
      have HBW := Aside0.mk (show Below W1.heap.size W1 wf from h0_)
      have HE2 := Aside0.mk (show EdR wf W1.heap.size (.slice Z3 rn z3) (.slice Z4 rm z4) (mG aG aC bG) (mC aC bC bG) from h1_)
      have HE5 := Aside0.mk (show EdR wf W1.heap.size (.slice V3 rn v3) (.slice V4 rm v4) (mG aG aC bG) (mC aC bC bG) from h2_)
      have HX6 := Aside0.mk (show wf.heap[g7]? = some (.cells zE 31 (0, 0)) from h3_)
      have HG6 := Aside0.mk (show W1.heap.size ≤ g7 from h4_)
      have HAP := Aside0.mk (show ApartV (.slice Z3 rn z3) (.slice Z4 rm z4) (.slice V3 rn v3) (.slice V4 rm v4) from h5_)
      clear h0_ h1_ h2_ h3_ h4_ h5_
      have hHeld := hS_
      refine norm_ (a' := ?_) ?_ ?_
      rotate_left
      · simp only [putAll, Act.put, List.setIfInBounds_toArray, List.set_cons_zero, List.set_cons_succ]
        rfl
      refine one_ (i := 7) (N := some 8) #[true, true, true, true, true, true, true, true, false, false] rfl rfl (by kernel_rfl) (by decide) (fun K hK => ?_)
      refine box_step (by rfl) (N := 8) rfl (cs := zE) (t := 31) (by first | (go_simp; done) | (go_simp; rfl)) ?_
      intro g8 hgo wn hbox hb
      have HBN := Aside0.mk (show Below W1.heap.size W1 wn from below_step HBW.out hb)
      have HNE := Aside0.mk (show g7 ≠ g8 by have h9 := blk_lt HX6.out; rw [hgo]; omega)
      have HE2 := Aside0.mk (HE2.out.below hb)
      have HE5 := Aside0.mk (HE5.out.below hb)
      have HX6 := Aside0.mk (blk_below HX6.out hb)
      have HX7 := Aside0.mk hbox
      have HG7 := Aside0.mk (show W1.heap.size ≤ g8 by rw [hgo]; exact below_size HBW.out)
      clear hgo hbox hb
      refine hK.out _ _ ⟨pw_cell_below HBN.out u0, pw_cell_below HBN.out u1, pw_cell_below HBN.out u2, pw_cell_below HBN.out u3, pw_cell_below HBN.out u4, pw_cell_below HBN.out v0, pw_cell_below HBN.out v1, pw_cell_below HBN.out v2, pw_cell_below HBN.out v3', pw_cell_below HBN.out v4'⟩ (fun hHeld => ?_)
      clear hK K
      refine norm_ (a' := ?_) ?_ ?_
      rotate_left
      · show Act.put _ (some 8) _ = _
        simp only [Act.put, List.setIfInBounds_toArray, List.set_cons_zero, List.set_cons_succ, i64_w, i32_w]
        rfl
      exact norm_ (by first | (simp only [putAll, Act.put, List.setIfInBounds_toArray, List.set_cons_zero, List.set_cons_succ]; done) | (simp only [putAll, Act.put, List.setIfInBounds_toArray, List.set_cons_zero, List.set_cons_succ]; rfl)) (hJ2_5_6_7 (Z3, z3, Z4, z4, V3, v3, V4, v4, g7, g8) _ ⟨hHeld, HBN.out, HE2.out, HE5.out, HX6.out, HG6.out, HX7.out, HG7.out, HNE.out, HAP.out⟩)
  rintro ⟨Z3, z3, Z4, z4, V3, v3, V4, v4, g7, g8⟩ wf ⟨hS_, h0_, h1_, h2_, h3_, h4_, h5_, h6_, h7_, h8_⟩
  have HBW := Aside0.mk (show Below W1.heap.size W1 wf from h0_)
  have HE2 := Aside0.mk (show EdR wf W1.heap.size (.slice Z3 rn z3) (.slice Z4 rm z4) (mG aG aC bG) (mC aC bC bG) from h1_)
  have HE5 := Aside0.mk (show EdR wf W1.heap.size (.slice V3 rn v3) (.slice V4 rm v4) (mG aG aC bG) (mC aC bC bG) from h2_)
  have HX6 := Aside0.mk (show wf.heap[g7]? = some (.cells zE 31 (0, 0)) from h3_)
  have HG6 := Aside0.mk (show W1.heap.size ≤ g7 from h4_)
  have HX7 := Aside0.mk (show wf.heap[g8]? = some (.cells zE 31 (0, 0)) from h5_)
  have HG7 := Aside0.mk (show W1.heap.size ≤ g8 from h6_)
  have HNE := Aside0.mk (show g7 ≠ g8 from h7_)
  have HAP := Aside0.mk (show ApartV (.slice Z3 rn z3) (.slice Z4 rm z4) (.slice V3 rn v3) (.slice V4 rm v4) from h8_)
  clear h0_ h1_ h2_ h3_ h4_ h5_ h6_ h7_ h8_
  have o6_0 : wf.cell? ⟨g7, 0, none⟩ = some (.int .i64 0) := (blk_cell HX6.out 0).trans rfl
  have o6_1 : wf.cell? ⟨g7, 1, none⟩ = some (.int .i64 0) := (blk_cell HX6.out 1).trans rfl
  have o6_2 : wf.cell? ⟨g7, 2, none⟩ = some (.int .u64 0) := (blk_cell HX6.out 2).trans rfl
  have o6_3 : wf.cell? ⟨g7, 3, none⟩ = some (.slice none 0 0) := (blk_cell HX6.out 3).trans rfl
  have o6_4 : wf.cell? ⟨g7, 4, none⟩ = some (.slice none 0 0) := (blk_cell HX6.out 4).trans rfl
  have q6_0 := blk_frozen HX6.out 0
  have q6_1 := blk_frozen HX6.out 1
  have q6_2 := blk_frozen HX6.out 2
  have q6_3 := blk_frozen HX6.out 3
  have q6_4 := blk_frozen HX6.out 4
  have o7_0 : wf.cell? ⟨g8, 0, none⟩ = some (.int .i64 0) := (blk_cell HX7.out 0).trans rfl
  have o7_1 : wf.cell? ⟨g8, 1, none⟩ = some (.int .i64 0) := (blk_cell HX7.out 1).trans rfl
  have o7_2 : wf.cell? ⟨g8, 2, none⟩ = some (.int .u64 0) := (blk_cell HX7.out 2).trans rfl
  have o7_3 : wf.cell? ⟨g8, 3, none⟩ = some (.slice none 0 0) := (blk_cell HX7.out 3).trans rfl
  have o7_4 : wf.cell? ⟨g8, 4, none⟩ = some (.slice none 0 0) := (blk_cell HX7.out 4).trans rfl
  have q7_0 := blk_frozen HX7.out 0
  have q7_1 := blk_frozen HX7.out 1
  have q7_2 := blk_frozen HX7.out 2
  have q7_3 := blk_frozen HX7.out 3
  have q7_4 := blk_frozen HX7.out 4
  have eHNE := HNE.out
  have fHNE := Ne.symm HNE.out
  have hHeld := hS_
  refine norm_ (a' := ?_) ?_ ?_
  rotate_left
  · simp only [putAll, Act.put, List.setIfInBounds_toArray, List.set_cons_zero, List.set_cons_succ]
    rfl
  refine last_ (i := 8) (N := none) #[true, true, true, true, true, true, true, true, true, false] rfl rfl (by kernel_rfl) (by decide) (fun K hK => ?_)
  refine skip_ (w1 := ?_) (by rfl) rfl ?_ ?_
  rotate_left
  · go_simp
    rfl
  refine hK.out _ _ ?_
  clear hK K
  refine last_ (i := 9) (N := none) #[true, true, true, true, true, true, true, true, true, true] rfl rfl (by kernel_rfl) (by decide) (fun K hK => ?_)
  refine skip_ (w1 := ?_) (by rfl) rfl ?_ ?_
  rotate_left
  · go_simp
    rfl
  refine hK.out _ _ ?_
  clear hK K
  refine done_ (by kernel_rfl) ?_
  clear u0 u1 u2 u3 u4 v0 v1 v2 v3' v4' eHNE fHNE hHeld hS_ o6_0 o6_1 o6_2 o6_3 o6_4 o7_0 o7_1 o7_2 o7_3 o7_4 q6_0 q6_1 q6_2 q6_3 q6_4 q7_0 q7_1 q7_2 q7_3 q7_4
  have HT5 := Aside0.mk (told_far HX7.out (Ne.symm HNE.out) M0 M1 M2 (.slice Z3 rn z3) (.slice Z4 rm z4))
  have KM := Aside0.mk (told_far (toldW_blk (x0 := M0) (x1 := M1) (x2 := M2) (vG := .slice Z3 rn z3) (vC := .slice Z4 rm z4) HX6.out) HNE.out M0 M1 M2 (.slice V3 rn v3) (.slice V4 rm v4))
  have KN := Aside0.mk (toldW_blk (x0 := M0) (x1 := M1) (x2 := M2) (vG := .slice V3 rn v3) (vC := .slice V4 rm v4) HT5.out)
  have EM := Aside0.mk ((HE2.out.told HX6.out M0 M1 M2 (.slice Z3 rn z3) (.slice Z4 rm z4)).told HT5.out M0 M1 M2 (.slice V3 rn v3) (.slice V4 rm v4))
  have EN := Aside0.mk ((HE5.out.told HX6.out M0 M1 M2 (.slice Z3 rn z3) (.slice Z4 rm z4)).told HT5.out M0 M1 M2 (.slice V3 rn v3) (.slice V4 rm v4))
  have HXM := Aside0.mk (EX.out.apart EM.out)
  have HYM := Aside0.mk (EY.out.apart EM.out)
  have hw7 : W1.heap.size ≤ g7 := HG6.out
  have hw8 : W1.heap.size ≤ g8 := HG7.out
  have hz := HB1.out.size
  have l5 := blk_lt HKX.out
  have l6 := blk_lt HKY.out
  have lA := blk_lt KA.out
  have lB := blk_lt KB.out
  have EX := Aside0.mk (((EX.out.below HBW.out).told HX6.out M0 M1 M2 (.slice Z3 rn z3) (.slice Z4 rm z4)).told HT5.out M0 M1 M2 (.slice V3 rn v3) (.slice V4 rm v4))
  have EY := Aside0.mk (((EY.out.below HBW.out).told HX6.out M0 M1 M2 (.slice Z3 rn z3) (.slice Z4 rm z4)).told HT5.out M0 M1 M2 (.slice V3 rn v3) (.slice V4 rm v4))
  have KX := Aside0.mk (told_far (told_far (blk_below HKX.out HBW.out) (show g5 ≠ g7 by omega) M0 M1 M2 (.slice Z3 rn z3) (.slice Z4 rm z4)) (show g5 ≠ g8 by omega) M0 M1 M2 (.slice V3 rn v3) (.slice V4 rm v4))
  have KY := Aside0.mk (told_far (told_far (blk_below HKY.out HBW.out) (show g6 ≠ g7 by omega) M0 M1 M2 (.slice Z3 rn z3) (.slice Z4 rm z4)) (show g6 ≠ g8 by omega) M0 M1 M2 (.slice V3 rn v3) (.slice V4 rm v4))
  have KA := Aside0.mk (told_far (told_far (blk_below KA.out HBW.out) (show w.heap.size ≠ g7 by omega) M0 M1 M2 (.slice Z3 rn z3) (.slice Z4 rm z4)) (show w.heap.size ≠ g8 by omega) M0 M1 M2 (.slice V3 rn v3) (.slice V4 rm v4))
  have KB := Aside0.mk (told_far (told_far (blk_below KB.out HBW.out) (show w.heap.size + 1 ≠ g7 by omega) M0 M1 M2 (.slice Z3 rn z3) (.slice Z4 rm z4)) (show w.heap.size + 1 ≠ g8 by omega) M0 M1 M2 (.slice V3 rn v3) (.slice V4 rm v4))
  have HB2 := Aside0.mk (told_below (told_below (below_step HB1.out HBW.out) (show w.heap.size ≤ g7 by omega) M0 M1 M2 (.slice Z3 rn z3) (.slice Z4 rm z4)) (show w.heap.size ≤ g8 by omega) M0 M1 M2 (.slice V3 rn v3) (.slice V4 rm v4))
  have EM := Aside0.mk (EM.out.lower hz)
  have EN := Aside0.mk (EN.out.lower hz)
  obtain ⟨W2, hW2⟩ : ∃ W2, toldW (toldW wf g7 M0 M1 M2 (.slice Z3 rn z3) (.slice Z4 rm z4)) g8 M0 M1 M2 (.slice V3 rn v3) (.slice V4 rm v4) = W2 := ⟨_, rfl⟩
  rw [hW2] at KX KY KA KB KM KN EX EY EM EN HB2
  unfold toldW at hW2
  rw [hW2]
  clear hW2 HT5 HE2 HE5 HX6 HX7 HG6 HG7 HNE HBW HB1 HKX HKY hw7 hw8 hz l5 l6 lA lB HMG
  have cA0 := blk_cell KA.out 0
  have cA1 := blk_cell KA.out 1
  have cA2 := blk_cell KA.out 2
  have cA3 := blk_cell KA.out 3
  have cA4 := blk_cell KA.out 4
  have cB0 := blk_cell KB.out 0
  have cB1 := blk_cell KB.out 1
  have cB2 := blk_cell KB.out 2
  have cB3 := blk_cell KB.out 3
  have cB4 := blk_cell KB.out 4
  go_wp2_with fail
  (with_reducible refine (HRF.out _ HB2.out).mono ?_)
  rintro e w5 ⟨R3, r3, R4, r4, rfl, hr, hb⟩
  have HMW := Aside0.mk (EM.out.apart hr)
  have EW := Aside0.mk (hr.lower HB2.out.size)
  have KX := Aside0.mk (blk_below KX.out hb)
  have KY := Aside0.mk (blk_below KY.out hb)
  have KA := Aside0.mk (blk_below KA.out hb)
  have KB := Aside0.mk (blk_below KB.out hb)
  have KM := Aside0.mk (blk_below KM.out hb)
  have KN := Aside0.mk (blk_below KN.out hb)
  have EX := Aside0.mk (EX.out.below hb)
  have EY := Aside0.mk (EY.out.below hb)
  have EM := Aside0.mk (EM.out.below hb)
  have EN := Aside0.mk (EN.out.below hb)
  have HB2 := Aside0.mk (below_step HB2.out hb)
  clear hr hb cA0 cA1 cA2 cA3 cA4 cB0 cB1 cB2 cB3 cB4 HRF
  have hsz := HB2.out.size
  have lM := blk_lt KM.out
  have KMz := Aside0.mk (blk_below KM.out (below_alloc (Below.refl _ _) (.cells zE 31)))
  have KMw := Aside0.mk (blk_below KM.out (below_alloc (Below.refl _ _) (.cells (cE M0 M1 M2 (.slice R3 rn r3) (.slice R4 rm r4)) 31)))
  have KZ := Aside0.mk (blk_new w5 (.cells zE 31))
  have n0 : g7 ≠ w5.heap.size := by omega
  have n1 : w5.heap.size ≠ g7 := by omega
  have o0 := blk_cell KZ.out 0
  have o1 := blk_cell KZ.out 1
  have o2 := blk_cell KZ.out 2
  have o3 := blk_cell KZ.out 3
  have o4 := blk_cell KZ.out 4
  have q0 := blk_frozen KZ.out 0
  have q1 := blk_frozen KZ.out 1
  have q2 := blk_frozen KZ.out 2
  have q3 := blk_frozen KZ.out 3
  have q4 := blk_frozen KZ.out 4
  have cM0 := blk_cell KM.out 0
  have cM1 := blk_cell KM.out 1
  have cM2 := blk_cell KM.out 2
  have cM3 := blk_cell KM.out 3
  have cM4 := blk_cell KM.out 4
  have dM0 := blk_cell KMz.out 0
  have eM0 := blk_cell KMw.out 0
  have dM1 := blk_cell KMz.out 1
  have eM1 := blk_cell KMw.out 1
  have dM2 := blk_cell KMz.out 2
  have eM2 := blk_cell KMw.out 2
  have dM3 := blk_cell KMz.out 3
  have eM3 := blk_cell KMw.out 3
  have dM4 := blk_cell KMz.out 4
  have eM4 := blk_cell KMw.out 4
  go_wp2_with fail
  clear n0 n1 o0 o1 o2 o3 o4 q0 q1 q2 q3 q4 cM0 cM1 cM2 cM3 cM4 dM0 dM1 dM2 dM3 dM4 eM0 eM1 eM2 eM3 eM4 KMz KMw KZ hsz lM
  have KX := Aside0.mk (blk_below KX.out (below_alloc (Below.refl _ _) (.cells (cE M0 M1 M2 (.slice R3 rn r3) (.slice R4 rm r4)) 31)))
  have KY := Aside0.mk (blk_below KY.out (below_alloc (Below.refl _ _) (.cells (cE M0 M1 M2 (.slice R3 rn r3) (.slice R4 rm r4)) 31)))
  have KA := Aside0.mk (blk_below KA.out (below_alloc (Below.refl _ _) (.cells (cE M0 M1 M2 (.slice R3 rn r3) (.slice R4 rm r4)) 31)))
  have KB := Aside0.mk (blk_below KB.out (below_alloc (Below.refl _ _) (.cells (cE M0 M1 M2 (.slice R3 rn r3) (.slice R4 rm r4)) 31)))
  have KM := Aside0.mk (blk_below KM.out (below_alloc (Below.refl _ _) (.cells (cE M0 M1 M2 (.slice R3 rn r3) (.slice R4 rm r4)) 31)))
  have KN := Aside0.mk (blk_below KN.out (below_alloc (Below.refl _ _) (.cells (cE M0 M1 M2 (.slice R3 rn r3) (.slice R4 rm r4)) 31)))
  have EX := Aside0.mk (EX.out.below (below_alloc (Below.refl _ _) (.cells (cE M0 M1 M2 (.slice R3 rn r3) (.slice R4 rm r4)) 31)))
  have EY := Aside0.mk (EY.out.below (below_alloc (Below.refl _ _) (.cells (cE M0 M1 M2 (.slice R3 rn r3) (.slice R4 rm r4)) 31)))
  have EM := Aside0.mk (EM.out.below (below_alloc (Below.refl _ _) (.cells (cE M0 M1 M2 (.slice R3 rn r3) (.slice R4 rm r4)) 31)))
  have EN := Aside0.mk (EN.out.below (below_alloc (Below.refl _ _) (.cells (cE M0 M1 M2 (.slice R3 rn r3) (.slice R4 rm r4)) 31)))
  have EW := Aside0.mk (EW.out.below (below_alloc (Below.refl _ _) (.cells (cE M0 M1 M2 (.slice R3 rn r3) (.slice R4 rm r4)) 31)))
  have KW := Aside0.mk (blk_new w5 (.cells (cE M0 M1 M2 (.slice R3 rn r3) (.slice R4 rm r4)) 31))
  have HB2 := Aside0.mk (below_alloc HB2.out (.cells (cE M0 M1 M2 (.slice R3 rn r3) (.slice R4 rm r4)) 31))
  generalize w5.alloc (.cells (cE M0 M1 M2 (.slice R3 rn r3) (.slice R4 rm r4)) 31) = w6 at KX KY KA KB KM KN KW EX EY EM EN EW HB2 ⊢
  generalize w5.heap.size = g9 at KW ⊢
  (with_reducible refine (same15 M0 M1 M2 Z3 z3 (mG aG aC bG) Z4 z4 (mC aC bC bG) R3 r3 R4 r4 rn rm HRN.out HRM.out HRL.out.1 HRL.out.2 _ EM.out.c3.1 EM.out.c3.2 EM.out.c4.1 EM.out.c4.2 EW.out.c3.1 EW.out.c3.2 EW.out.c4.1 EW.out.c4.2).mono ?_)
  rintro e w7 ⟨rfl, hb⟩
  have KX := Aside0.mk (blk_below KX.out hb)
  have KY := Aside0.mk (blk_below KY.out hb)
  have KA := Aside0.mk (blk_below KA.out hb)
  have KB := Aside0.mk (blk_below KB.out hb)
  have KM := Aside0.mk (blk_below KM.out hb)
  have KN := Aside0.mk (blk_below KN.out hb)
  have EX := Aside0.mk (EX.out.below hb)
  have EY := Aside0.mk (EY.out.below hb)
  have EM := Aside0.mk (EM.out.below hb)
  have EN := Aside0.mk (EN.out.below hb)
  have EW := Aside0.mk (EW.out.below hb)
  have KW := Aside0.mk (blk_below KW.out hb)
  have HB2 := Aside0.mk (below_step HB2.out hb)
  clear hb
  have cM0 := blk_cell KM.out 0
  have cM1 := blk_cell KM.out 1
  have cM2 := blk_cell KM.out 2
  have cM3 := blk_cell KM.out 3
  have cM4 := blk_cell KM.out 4
  go_wp2_with fail
  (with_reducible refine (spoil15 M0 M1 M2 (mG aG aC bG) (mC aC bC bG) (.slice Z3 rn z3) (.slice Z4 rm z4) (by rw [HRN.out]; exact HRL.out.1) (by rw [HRM.out]; exact HRL.out.2) w w7 HB2.out EM.out).mono ?_)
  rintro e w8 ⟨rfl, hb, hk⟩
  have KX := Aside0.mk (EM.out.box KX.out hk)
  have KY := Aside0.mk (EM.out.box KY.out hk)
  have KA := Aside0.mk (EM.out.box KA.out hk)
  have KB := Aside0.mk (EM.out.box KB.out hk)
  have KN := Aside0.mk (EM.out.box KN.out hk)
  have KW := Aside0.mk (EM.out.box KW.out hk)
  have EX := Aside0.mk (EX.out.kept hk HXM.out)
  have EY := Aside0.mk (EY.out.kept hk HYM.out)
  have EN := Aside0.mk (EN.out.kept hk HAP.out.symm)
  have EW := Aside0.mk (EW.out.kept hk HMW.out.symm)
  have HB2 := Aside0.mk hb
  clear hb hk cM0 cM1 cM2 cM3 cM4 KM EM
  have cN0 := blk_cell KN.out 0
  have cN1 := blk_cell KN.out 1
  have cN2 := blk_cell KN.out 2
  have cN3 := blk_cell KN.out 3
  have cN4 := blk_cell KN.out 4
  have cW0 := blk_cell KW.out 0
  have cW1 := blk_cell KW.out 1
  have cW2 := blk_cell KW.out 2
  have cW3 := blk_cell KW.out 3
  have cW4 := blk_cell KW.out 4
  go_wp2_with fail
  (with_reducible refine (same15 M0 M1 M2 V3 v3 (mG aG aC bG) V4 v4 (mC aC bC bG) R3 r3 R4 r4 rn rm HRN.out HRM.out HRL.out.1 HRL.out.2 _ EN.out.c3.1 EN.out.c3.2 EN.out.c4.1 EN.out.c4.2 EW.out.c3.1 EW.out.c3.2 EW.out.c4.1 EW.out.c4.2).mono ?_)
  rintro e w9 ⟨rfl, hb⟩
  have KX := Aside0.mk (blk_below KX.out hb)
  have KY := Aside0.mk (blk_below KY.out hb)
  have KA := Aside0.mk (blk_below KA.out hb)
  have KB := Aside0.mk (blk_below KB.out hb)
  have EX := Aside0.mk (EX.out.below hb)
  have EY := Aside0.mk (EY.out.below hb)
  have HB2 := Aside0.mk (below_step HB2.out hb)
  clear hb cN0 cN1 cN2 cN3 cN4 cW0 cW1 cW2 cW3 cW4
  have cX0 := blk_cell KX.out 0
  have cX1 := blk_cell KX.out 1
  have cX2 := blk_cell KX.out 2
  have cX3 := blk_cell KX.out 3
  have cX4 := blk_cell KX.out 4
  have cA0 := blk_cell KA.out 0
  have cA1 := blk_cell KA.out 1
  have cA2 := blk_cell KA.out 2
  have cA3 := blk_cell KA.out 3
  have cA4 := blk_cell KA.out 4
  go_wp2_with fail
  have HLT := HL.out
  (with_reducible refine (same15 a0 a1 a2 X3 x3 aG X4 x4 aC A3 c3 A4 c4 n m HN.out.1.1 HN.out.1.2 (by omega) (by omega) _ EX.out.c3.1 EX.out.c3.2 EX.out.c4.1 EX.out.c4.2 (Kd.C_below H3.out.1 HB2.out) H3.out.2 (Kd.C_below H4.out.1 HB2.out) H4.out.2).mono ?_)
  clear HLT
  rintro e w10 ⟨rfl, hb⟩
  have KX := Aside0.mk (blk_below KX.out hb)
  have KY := Aside0.mk (blk_below KY.out hb)
  have KA := Aside0.mk (blk_below KA.out hb)
  have KB := Aside0.mk (blk_below KB.out hb)
  have EX := Aside0.mk (EX.out.below hb)
  have EY := Aside0.mk (EY.out.below hb)
  have HB2 := Aside0.mk (below_step HB2.out hb)
  clear hb cX0 cX1 cX2 cX3 cX4 cA0 cA1 cA2 cA3 cA4
  have cY0 := blk_cell KY.out 0
  have cY1 := blk_cell KY.out 1
  have cY2 := blk_cell KY.out 2
  have cY3 := blk_cell KY.out 3
  have cY4 := blk_cell KY.out 4
  have cB0 := blk_cell KB.out 0
  have cB1 := blk_cell KB.out 1
  have cB2 := blk_cell KB.out 2
  have cB3 := blk_cell KB.out 3
  have cB4 := blk_cell KB.out 4
  go_wp2_with fail
  have HLT := HL.out
  (with_reducible refine (same15 b0 b1 b2 Y3 y3 bG Y4 y4 bC B3 d3 B4 d4 p q HN.out.2.1 HN.out.2.2 (by omega) (by omega) _ EY.out.c3.1 EY.out.c3.2 EY.out.c4.1 EY.out.c4.2 (Kd.C_below G3.out.1 HB2.out) G3.out.2 (Kd.C_below G4.out.1 HB2.out) G4.out.2).mono ?_)
  clear HLT
  rintro e w11 ⟨rfl, hb⟩
  have HB2 := Aside0.mk (below_step HB2.out hb)
  clear hb cY0 cY1 cY2 cY3 cY4 cB0 cB1 cB2 cB3 cB4
  go_wp2
  go_ret
  exact ⟨rfl, HB2.out⟩

end Go.Proofs.Ytppldgbgdgeegaa.G

/- Contracts typed by hand: the law EditMerges, for its second form -/
namespace Go.Proofs.Ytppldgbgdgeegaa.G
open Go.RowKit Go.Proofs.YtppldgbgdgeegaaW.PrintWords Go.Proofs.YtppldgbgdgeegaaW.PrintLast Go.Proofs.YtppldgbgdgeegaaW.PrintMore
attribute [local go_sem] max2_int min2_int max_two min_two max_three min_three max_four min_four
set_option linter.unusedVariables false
set_option linter.unusedSimpArgs false

/-! the law EditMerges, for its second form -/
open Go.WideMaps Go.WideElems
theorem sumBulk_len15 {α : Type} (bulk : α → Nat) (h : ∀ x, 1 ≤ bulk x) : ∀ l : List α, l.length ≤ sumBulk bulk l := by
  intro l
  induction l with
  | nil => exact Nat.zero_le _
  | cons x r ih => rw [sumBulk_cons, List.length_cons]; have := h x; omega
theorem open_e15 {w : World} {cs : Array Value} {x : Int × Int × Int × List S45 × List S43} (h : (Kd.pair (Kd.int .i64) (Kd.pair (Kd.int .i64) (Kd.pair (Kd.int .u64) (Kd.pair (Kd.slice 45 k45) (Kd.slice 43 k43))))).K w x cs.toList) : ∃ A3 c3 A4 c4, cs = cE x.1 x.2.1 x.2.2.1 (.slice A3 x.2.2.2.1.length c3) (.slice A4 x.2.2.2.2.length c4) ∧ Kd.C k45 w A3 x.2.2.2.1.length x.2.2.2.1 ∧ x.2.2.2.1.length ≤ c3 ∧ Kd.C k43 w A4 x.2.2.2.2.length x.2.2.2.2 ∧ x.2.2.2.2.length ≤ c4 := by
  obtain ⟨a1, b1, e1, h1, ⟨a2, b2, e2, h2, ⟨a3, b3, e3, h3, ⟨a4, b4, e4, h4, h5⟩⟩⟩⟩ := h
  have i1 : a1 = [.int .i64 x.1] := h1
  have i2 : a2 = [.int .i64 x.2.1] := h2
  have i3 : a3 = [.int .u64 x.2.2.1] := h3
  obtain ⟨A3, c3, i4, l4, r4⟩ := h4
  obtain ⟨A4, c4, i5, l5, r5⟩ := h5
  subst i1 i2 i3 i4 i5
  subst e4
  subst e3
  subst e2
  refine ⟨A3, c3, A4, c4, ?_, r4, l4, r5, l5⟩
  apply Array.toList_inj.1
  simpa using e1
theorem EditMerges_upto (w : World) (cs0 : Array Value) (x0 : Int × Int × Int × List S45 × List S43) (hK0 : (Kd.pair (Kd.int .i64) (Kd.pair (Kd.int .i64) (Kd.pair (Kd.int .u64) (Kd.pair (Kd.slice 45 k45) (Kd.slice 43 k43))))).K w x0 cs0.toList) (hg0 : (Lit.int .i64 x0.1).wf = true ∧ (Lit.int .i64 x0.2.1).wf = true ∧ (Lit.int .u64 x0.2.2.1).wf = true ∧ (∀ x ∈ x0.2.2.2.1, (Lit.int .i64 x.f0).wf = true ∧ (Lit.int .i64 x.f1).wf = true) ∧ (∀ x ∈ x0.2.2.2.2, (Lit.int .i64 x.f0).wf = true ∧ ((Lit.int .i64 x.f1.f0).wf = true ∧ (Lit.int .i64 x.f1.f1).wf = true ∧ x.f1.f2.size ≤ maxLen ∧ x.f1.f3.size ≤ maxLen ∧ (Lit.int .u64 x.f1.f4).wf = true ∧ (Lit.int .u64 x.f1.f5).wf = true)))
    (cs1 : Array Value) (x1 : Int × Int × Int × List S45 × List S43) (hK1 : (Kd.pair (Kd.int .i64) (Kd.pair (Kd.int .i64) (Kd.pair (Kd.int .u64) (Kd.pair (Kd.slice 45 k45) (Kd.slice 43 k43))))).K w x1 cs1.toList) (hg1 : (Lit.int .i64 x1.1).wf = true ∧ (Lit.int .i64 x1.2.1).wf = true ∧ (Lit.int .u64 x1.2.2.1).wf = true ∧ (∀ x ∈ x1.2.2.2.1, (Lit.int .i64 x.f0).wf = true ∧ (Lit.int .i64 x.f1).wf = true) ∧ (∀ x ∈ x1.2.2.2.2, (Lit.int .i64 x.f0).wf = true ∧ ((Lit.int .i64 x.f1.f0).wf = true ∧ (Lit.int .i64 x.f1.f1).wf = true ∧ x.f1.f2.size ≤ maxLen ∧ x.f1.f3.size ≤ maxLen ∧ (Lit.int .u64 x.f1.f4).wf = true ∧ (Lit.int .u64 x.f1.f5).wf = true)))
    (hbulk : (1 + 1 + 1 + (sumBulk (fun _ : S45 => 1 + 1 + 1) x0.2.2.2.1 + 1) + (sumBulk (fun x : S43 => 1 + (1 + 1 + (x.f1.f2.size + 1) + (x.f1.f3.size + 1) + 1 + 1 + 1) + 1) x0.2.2.2.2 + 1) + 1) + (1 + 1 + 1 + (sumBulk (fun _ : S45 => 1 + 1 + 1) x1.2.2.2.1 + 1) + (sumBulk (fun x : S43 => 1 + (1 + 1 + (x.f1.f2.size + 1) + (x.f1.f3.size + 1) + 1 + 1 + 1) + 1) x1.2.2.2.2 + 1) + 1) ≤ 1048576) :
    Calls Try.prog 4 #[.agg cs0, .agg cs1] w fun e w' => e = .returned (.bool true) ∧ Below w.heap.size w w' := by
  obtain ⟨A3, c3, A4, c4, rfl, h3, hc3, h4, hc4⟩ := open_e15 hK0
  obtain ⟨B3, d3, B4, d4, rfl, g3, gc3, g4, gc4⟩ := open_e15 hK1
  have l1 := sumBulk_len15 (fun _ : S45 => 1 + 1 + 1) (fun _ => by omega) x0.2.2.2.1
  have l2 := sumBulk_len15 (fun x : S43 => 1 + (1 + 1 + (x.f1.f2.size + 1) + (x.f1.f3.size + 1) + 1 + 1 + 1) + 1) (fun _ => by omega) x0.2.2.2.2
  have l3 := sumBulk_len15 (fun _ : S45 => 1 + 1 + 1) (fun _ => by omega) x1.2.2.2.1
  have l4 := sumBulk_len15 (fun x : S43 => 1 + (1 + 1 + (x.f1.f2.size + 1) + (x.f1.f3.size + 1) + 1 + 1 + 1) + 1) (fun _ => by omega) x1.2.2.2.2
  exact merges_calls _ _ _ A3 c3 _ A4 c4 _ _ _ _ B3 d3 _ B4 d4 _ _ _ _ _ rfl rfl rfl rfl (by omega) (fun x hx => ⟨(hg0.2.2.2.2 x hx).1, (hg0.2.2.2.2 x hx).2.1⟩) (fun x hx => hg1.2.2.2.1 x hx) w h3 hc3 h4 hc4 g3 gc3 g4 gc4

end Go.Proofs.Ytppldgbgdgeegaa.G
