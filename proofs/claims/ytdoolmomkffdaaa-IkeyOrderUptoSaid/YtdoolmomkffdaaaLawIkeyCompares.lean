/- Contracts typed by hand: IkeyCompares and IkeyOrder hold of every input within the form's reach -/
import Derived.Test.YtdoolmomkffdaaaProg
import Derived.Below
import Derived.Deep.Draws
import Derived.Deep.AppendLies
import Derived.Maps.AppendAt
import Derived.OwnWalk
import Derived.Laws.BytesArg
import Derived.Laws.MakeOwn
import Derived.Laws.OwnMore
import Derived.Deep.OwnRows
import Derived.Tactics
import Derived.Lib.ConvBytes
import Derived.Laws.Slices
import Derived.WalkKit
import Derived.KernelRfl
import Derived.RowKit3
import Derived.Deep.LoopGhost
import Derived.Deep.QuietTactic
import Derived.BigQuiet
import Derived.WideLaws
import Derived.Deep.DeepCutAuto
import Derived.Deep.CutBlock
import Derived.Deep.RegionHeld3
import Derived.Laws.Rows
import Derived.Lib.AppendStr
import Derived.ArgAppend
import Derived.Laws.IdiomCopy
import Derived.OrdersHeld
import Derived.Laws.BitsLemmas
import Derived.RowKit
import Derived.Test.YtdoolmomkffdaaaWWords
import Derived.Test.YtdoolmomkffdaaaWLast
import Derived.Test.YtdoolmomkffdaaaWTab
import Derived.Test.YtdoolmomkffdaaaWFour
import Derived.Test.YtdoolmomkffdaaaWQPut
import Derived.Test.YtdoolmomkffdaaaWApart
import Derived.Test.YtdoolmomkffdaaaWArr
import Derived.Test.YtdoolmomkffdaaaWZeros
import Derived.Test.YtdoolmomkffdaaaWFoot
import Derived.Test.YtdoolmomkffdaaaWKept
import Derived.Test.YtdoolmomkffdaaaWShare
import Derived.Test.YtdoolmomkffdaaaWN
import Derived.Test.YtdoolmomkffdaaaWFootNe
import Derived.Test.YtdoolmomkffdaaaWAt
import Derived.Test.YtdoolmomkffdaaaWEqStruct
import Derived.Test.YtdoolmomkffdaaaWRepsOne
import Derived.Test.YtdoolmomkffdaaaWInv
import Derived.Test.YtdoolmomkffdaaaWInvWords
import Derived.Test.YtdoolmomkffdaaaWGuard
import Derived.Test.YtdoolmomkffdaaaWNEv
import Derived.Test.YtdoolmomkffdaaaWMore
import Derived.Test.YtdoolmomkffdaaaPureIkey
import Derived.Test.YtdoolmomkffdaaaOpens
import Derived.Test.YtdoolmomkffdaaaGx18
import Derived.Test.YtdoolmomkffdaaaGx11
namespace Go.Proofs.Ytdoolmomkffdaaa.G
open Go.RowKit Go.Proofs.YtdoolmomkffdaaaW.PrintWords Go.Proofs.YtdoolmomkffdaaaW.PrintLast Go.Proofs.YtdoolmomkffdaaaW.PrintMore
attribute [local go_sem] max2_int min2_int max_two min_two max_three min_three max_four min_four
set_option linter.unusedVariables false
set_option linter.unusedSimpArgs false

/-! IkeyCompares and IkeyOrder hold of every input within the form's reach -/
theorem IkeyCompares_pure (a : ByteArray) (s t : Int) (b : ByteArray) (u v : Int) : morainelaw03_IkeyCompares.f 4 a s t b u v = some true := by
  unfold morainelaw03_IkeyCompares.f
  rw [← valid_eq, ← valid_eq, valid_some, valid_some, compare_eq 0, compare_eq 0, refcompare_eq, kc_self]
  simp only [Option.bind_some, beq_self_eq_true, if_true]
  rfl
theorem IkeyCompares_upto (w : World) (cs0 : Array Value) (x0 : ByteArray × Int × Int) (hK0 : (Kd.pair Kd.string (Kd.pair (Kd.int .u64) (Kd.int .i64))).K w x0 cs0.toList) (hg0 : x0.1.size ≤ maxLen ∧ (Lit.int .u64 x0.2.1).wf = true ∧ (Lit.int .i64 x0.2.2).wf = true)
    (cs1 : Array Value) (x1 : ByteArray × Int × Int) (hK1 : (Kd.pair Kd.string (Kd.pair (Kd.int .u64) (Kd.int .i64))).K w x1 cs1.toList) (hg1 : x1.1.size ≤ maxLen ∧ (Lit.int .u64 x1.2.1).wf = true ∧ (Lit.int .i64 x1.2.2).wf = true) (hbulk : (x0.1.size + 1) + 1 + 1 + 1 + ((x1.1.size + 1) + 1 + 1 + 1) ≤ 1048576) :
    Calls Try.prog 5 #[.agg cs0, .agg cs1] w fun e w' => e = .returned (.bool true) ∧ Below w.heap.size w w' := by
  obtain rfl := open_ikey hK0
  obtain rfl := open_ikey hK1
  exact morainelaw03_IkeyCompares.calls 4 _ _ _ _ _ _ true w (IkeyCompares_pure _ _ _ _ _ _)
theorem order_end (k : Nat) (x y z : Int) (h : x ≤ 0 → y ≤ 0 → z ≤ 0 ∧ (z = 0 ↔ x = 0 ∧ y = 0)) : morainelaw03_IkeyOrder.j0 (k + 5) x y z false = some true := by
  have e : ikey_Compare.f (k + 4) (⟨#[107]⟩ : ByteArray) 7 1 (⟨#[107]⟩ : ByteArray) 9 0 = some 1 := by
    rw [compare_eq, show kc (⟨#[107]⟩ : ByteArray).toList 7 1 (⟨#[107]⟩ : ByteArray).toList 9 0 = 1 by unfold kc; rw [cb_self]; rfl]
  rw [morainelaw03_IkeyOrder.j0, if_neg Bool.false_ne_true, e]
  simp only [Option.bind_some]
  by_cases hx : x ≤ 0
  · rw [if_pos hx]
    by_cases hy : y ≤ 0
    · obtain ⟨h1, h2⟩ := h hx hy
      rw [if_pos hy, if_neg (by omega)]
      by_cases h0 : x = 0
      · rw [if_pos h0]
        have : ((z == 0) != (y == 0)) = false := by
          rw [bne_eq_false_iff_eq, Bool.eq_iff_iff]
          simp only [beq_iff_eq]
          omega
        rw [this, if_neg Bool.false_ne_true]
        rfl
      · rw [if_neg h0]
        have : ((z == 0) != false) = false := by
          rw [bne_eq_false_iff_eq]
          exact beq_eq_false_iff_ne.2 (by omega)
        rw [this, if_neg Bool.false_ne_true]
        rfl
    · rw [if_neg hy]
      rfl
  · rw [if_neg hx]
    rfl
theorem IkeyOrder_pure (a : ByteArray) (s t : Int) (b : ByteArray) (u v : Int) (c : ByteArray) (p q : Int) : morainelaw03_IkeyOrder.f 5 a s t b u v c p q = some true := by
  have h1 := kc_rng a.toList s t b.toList u v
  have h2 := kc_anti a.toList s t b.toList u v
  have h3 := kc_iff a.toList s t b.toList u v
  have h4 := fun hx hy => kc_le_trans (a := a.toList) (s := s) (k := t) (b := b.toList) (t := u) (l := v) (c := c.toList) (u := p) (m := q) hx hy
  have hend := order_end 0 (kc a.toList s t b.toList u v) (kc b.toList u v c.toList p q) (kc a.toList s t c.toList p q) h4
  unfold morainelaw03_IkeyOrder.f
  rw [compare_eq 1, compare_eq 1, compare_eq 1, compare_eq 1]
  simp only [Option.bind_some]
  generalize kc a.toList s t b.toList u v = x at *
  generalize kc b.toList u v a.toList s t = y at *
  have hw : wrap64 (-y) = x := by
    have h5 : -y = x := by omega
    rw [h5]
    unfold wrap64
    omega
  have hne : ((x == 0) != (a.toList == b.toList && (s == u && t == v))) = false := by
    rw [bne_eq_false_iff_eq, Bool.eq_iff_iff]
    simp only [beq_iff_eq, Bool.and_eq_true]
    exact h3
  rw [if_neg (by omega), if_neg (by omega), if_pos hw.symm, hne]
  exact hend
theorem IkeyOrder_upto (w : World) (cs0 : Array Value) (x0 : ByteArray × Int × Int) (hK0 : (Kd.pair Kd.string (Kd.pair (Kd.int .u64) (Kd.int .i64))).K w x0 cs0.toList) (hg0 : x0.1.size ≤ maxLen ∧ (Lit.int .u64 x0.2.1).wf = true ∧ (Lit.int .i64 x0.2.2).wf = true)
    (cs1 : Array Value) (x1 : ByteArray × Int × Int) (hK1 : (Kd.pair Kd.string (Kd.pair (Kd.int .u64) (Kd.int .i64))).K w x1 cs1.toList) (hg1 : x1.1.size ≤ maxLen ∧ (Lit.int .u64 x1.2.1).wf = true ∧ (Lit.int .i64 x1.2.2).wf = true)
    (cs2 : Array Value) (x2 : ByteArray × Int × Int) (hK2 : (Kd.pair Kd.string (Kd.pair (Kd.int .u64) (Kd.int .i64))).K w x2 cs2.toList) (hg2 : x2.1.size ≤ maxLen ∧ (Lit.int .u64 x2.2.1).wf = true ∧ (Lit.int .i64 x2.2.2).wf = true) (hbulk : (x0.1.size + 1) + 1 + 1 + 1 + ((x1.1.size + 1) + 1 + 1 + 1 + ((x2.1.size + 1) + 1 + 1 + 1)) ≤ 1048576) :
    Calls Try.prog 4 #[.agg cs0, .agg cs1, .agg cs2] w fun e w' => e = .returned (.bool true) ∧ Below w.heap.size w w' := by
  obtain rfl := open_ikey hK0
  obtain rfl := open_ikey hK1
  obtain rfl := open_ikey hK2
  exact morainelaw03_IkeyOrder.calls 5 _ _ _ _ _ _ _ _ _ true w (IkeyOrder_pure _ _ _ _ _ _ _ _ _)

end Go.Proofs.Ytdoolmomkffdaaa.G
