/- Contracts of functions and plain laws, several texts of the session put together by its program. -/
import Derived.Test.YtehfcafmdnfamaaProg
import Derived.Below
import Derived.Deep.Draws
import Derived.Deep.AppendLies
import Derived.Maps.AppendAt
import Derived.OwnWalk
import Derived.Laws.BytesArg
import Derived.Laws.MakeOwn
import Derived.Laws.OwnMore
import Derived.Deep.OwnRows
import Derived.Tactics
import Derived.Lib.ConvBytes
import Derived.Laws.Slices
import Derived.WalkKit
import Derived.KernelRfl
import Derived.RowKit3
import Derived.Deep.LoopGhost
import Derived.Deep.QuietTactic
import Derived.BigQuiet
import Derived.WideLaws
import Derived.Deep.DeepCutAuto
import Derived.Deep.CutBlock
import Derived.Deep.RegionHeld3
import Derived.Laws.Rows
import Derived.Lib.AppendStr
import Derived.ArgAppend
import Derived.Laws.IdiomCopy
import Derived.OrdersHeld
import Derived.Laws.BitsLemmas
import Derived.RowKit
import Derived.Test.YtehfcafmdnfamaaWWords
import Derived.Test.YtehfcafmdnfamaaWLast
import Derived.Test.YtehfcafmdnfamaaWTab
import Derived.Test.YtehfcafmdnfamaaWFour
import Derived.Test.YtehfcafmdnfamaaWQPut
import Derived.Test.YtehfcafmdnfamaaWApart
import Derived.Test.YtehfcafmdnfamaaWArr
import Derived.Test.YtehfcafmdnfamaaWZeros
import Derived.Test.YtehfcafmdnfamaaWFoot
import Derived.Test.YtehfcafmdnfamaaWKept
import Derived.Test.YtehfcafmdnfamaaWShare
import Derived.Test.YtehfcafmdnfamaaWN
import Derived.Test.YtehfcafmdnfamaaWFootNe
import Derived.Test.YtehfcafmdnfamaaWAt
import Derived.Test.YtehfcafmdnfamaaWEqStruct
import Derived.Test.YtehfcafmdnfamaaWRepsOne
import Derived.Test.YtehfcafmdnfamaaWInv
import Derived.Test.YtehfcafmdnfamaaWInvWords
import Derived.Test.YtehfcafmdnfamaaWGuard
import Derived.Test.YtehfcafmdnfamaaWNEv
import Derived.Test.YtehfcafmdnfamaaWMore
import Derived.Test.YtehfcafmdnfamaaQ2
import Derived.Test.YtehfcafmdnfamaaQ4
import Derived.Test.YtehfcafmdnfamaaQ1

/- Contracts typed by hand: the law SkipWalks: all nodes gone through while others come -/
namespace Go.Proofs.Ytehfcafmdnfamaa.G
open Go.RowKit Go.Proofs.YtehfcafmdnfamaaW.PrintWords Go.Proofs.YtehfcafmdnfamaaW.PrintLast Go.Proofs.YtehfcafmdnfamaaW.PrintMore
attribute [local go_sem] max2_int min2_int max_two min_two max_three min_three max_four min_four
set_option linter.unusedVariables false
set_option linter.unusedSimpArgs false

/-! the law SkipWalks: all nodes gone through while others come -/
open Go.Shelf
attribute [local go_sem] Oper.semAt_some
attribute [local go_sem high] eqAk
def noV (_ : Int) : ByteArray := ⟨#[]⟩
theorem M45 (W W' : World) (b b' : Nat) (p p' : Nat → Prop) (x : S45) (cs : List Value) (h : k45.M W b p x cs) : k45.M W' b' p' x cs := by
  rw [k45_openM h]; exact k45_mkM W' b' p' x
theorem R_only {α : Type} {k : Kd α} {T : TypeId} {w : World} {base : Nat} {ok : Nat → Prop} {v : Value} {l : List α} (h : Kd.R k T w base ok v l) (hM : ∀ (W : World) (b : Nat) (p p' : Nat → Prop) (x : α) (cs : List Value), k.M W b p x cs → k.M W b p' x cs) : Kd.R k T w base (fun q => v.ownBlock = some q) v l := by
  obtain ⟨h0, inner, ho, hrr⟩ := h
  exact ⟨fun _ hk => hk, inner, ho, hrr.imp_ (fun _ _ hp => hM _ _ _ _ _ _ hp)⟩
theorem R_over {α : Type} {k : Kd α} {T : TypeId} {w w1 : World} {base : Nat} {ok : Nat → Prop} {v : Value} {l : List α} (h : Kd.R k T w base ok v l) (hM : ∀ (W W' : World) (b : Nat) (p : Nat → Prop) (x : α) (cs : List Value), k.M W b p x cs → k.M W' b p x cs) (hm : ∀ (q : Nat) (cs : Array Value), v.ownBlock = some q → w.heap[q]? = some (.cells cs T (0, 0)) → w1.heap[q]? = w.heap[q]?) : Kd.R k T w1 base ok v l := by
  obtain ⟨h0, inner, ho, hrr⟩ := h
  refine ⟨h0, inner, own_move ho fun q hq => ?_, hrr.imp_ (fun _ _ hp => hM _ _ _ _ _ _ hp)⟩
  obtain ⟨cs, hc⟩ := own_typed ho q hq
  exact hm q cs hq hc
theorem SkAt.over {w w1 : World} {g base most : Nat} {S : SL Int} (h : SkAt w g base S most) (hm : ∀ (q : Nat) (cs : Array Value) (t : TypeId), w.heap[q]? = some (.cells cs t (0, 0)) → (t = 78 ∨ t = 84) → w1.heap[q]? = w.heap[q]?) : SkAt w1 g base S most := by
  obtain ⟨b, c, ns, h1, h2, h3⟩ := h
  refine ⟨b, c, ns, (hm g _ _ h1 (.inl rfl)).trans h1, ndR_move h2 fun q hq => ?_, h3⟩
  obtain ⟨inner, hown⟩ := Kd.R_own h2
  obtain ⟨cs, hc⟩ := own_typed hown q hq
  exact hm q _ _ hc (.inr rfl)
/-- what stands between two steps -/
structure WB (w X : World) (g B7 B9 : Nat) (An : Option Addr) (nn cn : Nat) (Ao : Option Addr) (no co : Nat) (S T : SL Int) : Prop where
  below : Below w.heap.size w X
  lst : Boxed X B7 23 (.pointer (some ⟨g, 0, none⟩))
  ref : X.heap[B9]? = some (.cells #[.int .i64 1048576, .slice An nn cn, .slice Ao no co] 30 (0, 0))
  b9 : w.heap.size ≤ B9
  rn : Kd.R k45 45 X w.heap.size (fun q => (Value.slice An nn cn).ownBlock = some q) (.slice An nn cn) (nodesR noV S)
  ro : Kd.R (Kd.int .i64) 3 X w.heap.size (fun q => (Value.slice Ao no co).ownBlock = some q) (.slice Ao no co) (ordR S)
  sk : SkAt X g w.heap.size T 1048576
section
variable {w X Y : World} {g B7 B9 : Nat} {An : Option Addr} {nn cn : Nat} {Ao : Option Addr} {no co : Nat} {S T : SL Int}
theorem WB.later (h : WB w X g B7 B9 An nn cn Ao no co S T) (hb : Below X.heap.size X Y) : WB w Y g B7 B9 An nn cn Ao no co S T :=
  ⟨below_step h.below hb, blk_below h.lst hb, blk_below h.ref hb, h.b9, Kd.R_below h.rn hb, Kd.R_below h.ro hb, h.sk.below hb⟩
theorem WB.grown {row : Option Nat} (h : WB w X g B7 B9 An nn cn Ao no co S T) (hg : X.grownBy Y row) (hr : ∀ r, row = some r → w.heap.size ≤ r ∧ ∃ o : Obj, X.heap[r]? = some o ∧ o.isCells = false) : WB w Y g B7 B9 An nn cn Ao no co S T := by
  have hr' := fun r e => (hr r e).2
  exact ⟨h.below.grown hg h.below.size (fun k e => (hr k e).1), cells_own _ _ _ X Y row h.lst hg hr', cells_own _ _ _ X Y row h.ref hg hr', h.b9, R_grown h.rn (fun _ _ _ _ _ _ h => M45 _ _ _ _ _ _ _ _ h) hg hr', R_grown h.ro (fun _ _ _ _ _ _ h => h) hg hr', h.sk.grown hg hr'⟩
theorem WB.turned {T' : SL Int} (h : WB w X g B7 B9 An nn cn Ao no co S T) (hk : Kept X Y (Turns X g w.heap.size)) (hb : Below w.heap.size X Y) (hs : SkAt Y g w.heap.size T' 1048576) : WB w Y g B7 B9 An nn cn Ao no co S T' :=
  ⟨h.below.trans hb, turns_blk hk h.sk h.lst (by decide) (by decide), turns_blk hk h.sk h.ref (by decide) (by decide), h.b9,
    turns_R hk h.sk h.rn (fun _ _ _ _ _ _ h => M45 _ _ _ _ _ _ _ _ h) (by decide) (by decide), turns_R hk h.sk h.ro (fun _ _ _ _ _ _ h => h) (by decide) (by decide), hs⟩
theorem WB.refB9 {X1 : World} (h : WB w X g B7 B9 An nn cn Ao no co S T) (hb : Below X.heap.size X X1) (hk : Kept X1 Y (fun q => (Value.slice An nn cn).ownBlock = some q ∨ (Value.slice Ao no co).ownBlock = some q)) : Y.heap[B9]? = some (.cells #[.int .i64 1048576, .slice An nn cn, .slice Ao no co] 30 (0, 0)) := by
  have h := h.later hb
  refine (hk.2 B9 (blk_lt h.ref) ?_).trans h.ref
  rintro (e | e)
  · exact absurd e (by
      intro e
      obtain ⟨cs', hc⟩ := Kd.R_typed h.rn B9 e
      have hq := h.ref
      rw [hc] at hq
      injection hq with hq
      injection hq with _ hq _
      exact absurd hq (by decide))
  · obtain ⟨cs', hc⟩ := Kd.R_typed h.ro B9 e
    have hq := h.ref
    rw [hc] at hq
    injection hq with hq
    injection hq with _ hq _
    exact absurd hq (by decide)
/-- the document's list takes a node, and is stored -/
theorem WB.reffed {Z : World} {An2 : Option Addr} {nn2 cn2 : Nat} {Ao2 : Option Addr} {no2 co2 : Nat} {S2 : SL Int} {ok1 ok2 : Nat → Prop} (h : WB w X g B7 B9 An nn cn Ao no co S T) (hk : Kept X Y (fun q => (Value.slice An nn cn).ownBlock = some q ∨ (Value.slice Ao no co).ownBlock = some q)) (hb : Below w.heap.size w Y)
    (hrn : Kd.R k45 45 Y w.heap.size ok1 (.slice An2 nn2 cn2) (nodesR noV S2)) (hro : Kd.R (Kd.int .i64) 3 Y w.heap.size ok2 (.slice Ao2 no2 co2) (ordR S2))
    (hZ : ((Y.setCell ⟨B9, 0, none⟩ (.int .i64 1048576)).setCell ⟨B9, 1, none⟩ (.slice An2 nn2 cn2)).setCell ⟨B9, 2, none⟩ (.slice Ao2 no2 co2) = Z) : WB w Z g B7 B9 An2 nn2 cn2 Ao2 no2 co2 S2 T := by
  have keep : ∀ (q : Nat) (cs : Array Value) (t : TypeId), X.heap[q]? = some (.cells cs t (0, 0)) → t ≠ 45 → t ≠ 3 → Y.heap[q]? = X.heap[q]? := by
    intro q cs t hq h1 h2
    refine hk.2 q (blk_lt hq) ?_
    rintro (e | e)
    · obtain ⟨cs', hc⟩ := Kd.R_typed h.rn q e
      rw [hc] at hq
      injection hq with hq
      injection hq with _ hq _
      exact h1 hq.symm
    · obtain ⟨cs', hc⟩ := Kd.R_typed h.ro q e
      rw [hc] at hq
      injection hq with hq
      injection hq with _ hq _
      exact h2 hq.symm
  have hY9 := (keep B9 _ _ h.ref (by decide) (by decide)).trans h.ref
  have hY7 := (keep B7 _ _ h.lst (by decide) (by decide)).trans h.lst
  have far : ∀ (q : Nat) (cs : Array Value) (t : TypeId), Y.heap[q]? = some (.cells cs t (0, 0)) → t ≠ 30 → Z.heap[q]? = Y.heap[q]? := by
    intro q cs t hq h1
    have hne : q ≠ B9 := by
      rintro rfl
      rw [hY9] at hq
      injection hq with hq
      injection hq with _ hq _
      exact h1 hq.symm
    rw [← hZ]
    exact (Below.heap_setCell _ _ _ _ hne).trans ((Below.heap_setCell _ _ _ _ hne).trans (Below.heap_setCell _ _ _ _ hne))
  have hsY : SkAt Y g w.heap.size T 1048576 := h.sk.over fun q cs t hq ht => keep q cs t hq (by rcases ht with rfl | rfl <;> decide) (by rcases ht with rfl | rfl <;> decide)
  exact ⟨below_set3 hZ hb h.b9, (far B7 _ _ hY7 (by decide)).trans hY7, blk_put3 hZ hY9, h.b9,
    R_only (R_over hrn (fun _ _ _ _ _ _ h => M45 _ _ _ _ _ _ _ _ h) fun q cs _ hc => far q cs _ hc (by decide)) (fun _ _ _ _ _ _ h => M45 _ _ _ _ _ _ _ _ h),
    R_only (R_over hro (fun _ _ _ _ _ _ h => h) fun q cs _ hc => far q cs _ hc (by decide)) (fun _ _ _ _ _ _ h => h),
    hsY.over fun q cs t hq ht => far q cs t hq (by rcases ht with rfl | rfl <;> decide)⟩
/-- a box of a whole number is written -/
theorem WB.boxed {Bi : Nat} {u : Value} (h : WB w X g B7 B9 An nn cn Ao no co S T) (hb : Boxed X Bi 3 u) (hw : w.heap.size ≤ Bi) (hA : ∀ q, (Value.slice Ao no co).ownBlock = some q → q ≠ Bi) (v : Value) : WB w (X.setCell ⟨Bi, 0, none⟩ v) g B7 B9 An nn cn Ao no co S T := by
  have far : ∀ (q : Nat) (cs : Array Value) (t : TypeId), X.heap[q]? = some (.cells cs t (0, 0)) → t ≠ 3 → (X.setCell ⟨Bi, 0, none⟩ v).heap[q]? = X.heap[q]? := by
    intro q cs t hq h1
    refine Below.heap_setCell _ _ _ _ ?_
    intro e
    rw [show q = Bi from e, show X.heap[Bi]? = _ from hb] at hq
    injection hq with hq
    injection hq with _ hq _
    exact h1 hq.symm
  exact ⟨below_set h.below hw, (far B7 _ _ h.lst (by decide)).trans h.lst, (far B9 _ _ h.ref (by decide)).trans h.ref, h.b9,
    R_over h.rn (fun _ _ _ _ _ _ h => M45 _ _ _ _ _ _ _ _ h) fun q cs _ hc => far q cs _ hc (by decide),
    R_over h.ro (fun _ _ _ _ _ _ h => h) fun q cs hq _ => Below.heap_setCell _ _ _ _ (hA q hq),
    h.sk.over fun q cs t hq ht => far q cs t hq (by rcases ht with rfl | rfl <;> decide)⟩
theorem AllAt.boxed {Bi n : Nat} {v : Value} {l : List Int} (h : AllAt X n g v l) (h1 : n ≠ Bi) (h2 : n + 1 ≠ Bi) (hA : ∀ q, v.ownBlock = some q → q ≠ Bi) (u : Value) : AllAt (X.setCell ⟨Bi, 0, none⟩ u) n g v l :=
  ⟨(Below.heap_setCell _ _ _ _ h1).trans h.lst, (Below.heap_setCell _ _ _ _ h2).trans h.box, R_over h.row (fun _ _ _ _ _ _ h => h) fun q cs hq _ => Below.heap_setCell _ _ _ _ (hA q hq)⟩
theorem SkAt.boxed {base most Bi : Nat} {u : Value} (h : SkAt X g base T most) (hb : Boxed X Bi 3 u) (v : Value) : SkAt (X.setCell ⟨Bi, 0, none⟩ v) g base T most :=
  h.over fun q cs t hq ht => by
    refine Below.heap_setCell _ _ _ _ ?_
    intro e
    rw [show q = Bi from e, show X.heap[Bi]? = _ from hb] at hq
    injection hq with hq
    injection hq with _ hq _
    rcases ht with rfl | rfl <;> exact absurd hq (by decide)
end
def fr160 (u : Nat → Value) (p4 p5 p6 p7 p9 p14 x15 x16 x17 : Value) : Act := { tmps := #[u 0, u 1, u 2, u 3, p4, p5, p6, p7, u 8, p9, u 10, u 11, u 12, u 13, p14, x15, x16, x17, u 18, u 19, u 20, u 21, u 22, u 23, u 24, u 25, u 26, u 27, u 28, u 29, u 30, u 31, u 32, u 33, u 34, u 35, u 36, u 37, u 38, u 39, u 40, u 41, u 42, u 43, u 44, u 45, u 46, u 47, u 48, u 49, u 50, u 51, u 52, u 53, u 54, u 55, u 56, u 57, u 58, u 59, u 60, u 61, u 62, u 63, u 64, u 65, u 66, u 67, u 68, u 69, u 70, u 71, u 72, u 73, u 74, u 75, u 76, u 77, u 78, u 79, u 80, u 81, u 82, u 83, u 84, u 85, u 86, u 87, u 88, u 89, u 90, u 91, u 92, u 93, u 94, u 95, u 96, u 97, u 98, u 99, u 100, u 101, u 102, u 103, u 104, u 105, u 106, u 107, u 108, u 109, u 110, u 111, u 112, u 113, u 114, u 115, u 116, u 117, u 118, u 119, u 120, u 121, u 122, u 123, u 124, u 125, u 126, u 127, u 128, u 129, u 130, u 131, u 132, u 133, u 134, u 135, u 136, u 137, u 138, u 139, u 140, u 141, u 142, u 143, u 144, u 145, u 146, u 147, u 148, u 149, u 150, u 151, u 152, u 153, u 154, u 155, u 156, u 157, u 158, u 159], defers := [] }
theorem AllAt.turned {w w' : World} {g base most n : Nat} {v : Value} {l : List Int} {S : SL Int} (h : AllAt w n g v l) (hk : Kept w w' (Turns w g base)) (hs : SkAt w g base S most) : AllAt w' n g v l :=
  ⟨turns_blk hk hs h.lst (by decide) (by decide), turns_blk hk hs h.box (by decide) (by decide), turns_ints hk hs h.row⟩
/-- what the rounds keep -/
def wI (w : World) (g B7 B9 : Nat) (An : Option Addr) (nn cn : Nat) (Ao : Option Addr) (no co : Nat) (S : SL Int) (n Bi : Nat) (v : Value) (pre : List (Nat × IK)) (X : World) : Prop :=
  Boxed X Bi 3 (.int .i64 (pre.length : Int)) ∧ (∃ T, WB w X g B7 B9 An nn cn Ao no co S T ∧ Ext S T) ∧ AllAt X n g v (ordI S)
theorem wI_own {w : World} {g B7 B9 : Nat} {An : Option Addr} {nn cn : Nat} {Ao : Option Addr} {no co : Nat} {S : SL Int} {n Bi : Nat} {v : Value} {B : Nat} (hB : w.heap.size ≤ B) : OwnFrom B (wI w g B7 B9 An nn cn Ao no co S n Bi v) := by
  rintro pre X Y row ⟨h1, ⟨T, h2, h3⟩, h4⟩ hg hr
  exact ⟨cells_own _ _ _ X Y row h1 hg (fun r e => (hr r e).2), ⟨T, h2.grown hg (fun r e => ⟨by have := (hr r e).1; omega, (hr r e).2⟩), h3⟩, h4.grown hg (fun r e => (hr r e).2)⟩
/-- a round is over -/
theorem wI_next {w X Y : World} {g B7 B9 : Nat} {An : Option Addr} {nn cn : Nat} {Ao : Option Addr} {no co : Nat} {S T : SL Int} {n Bi N : Nat} {v : Value} {pre : List (Nat × IK)} (x : Nat × IK) (hw : w.heap.size ≤ Bi) (hA : ∀ q, (Value.slice Ao no co).ownBlock = some q → q ≠ Bi) (hv : ∀ q, v.ownBlock = some q → q ≠ Bi) (h1 : n ≠ Bi) (h2 : n + 1 ≠ Bi)
    (hk : KeepsFrom N X Y) (hs : X.heap.size ≤ Y.heap.size) (hb : Boxed Y Bi 3 (.int .i64 (pre.length : Int))) (hW : WB w Y g B7 B9 An nn cn Ao no co S T) (hE : Ext S T) (hat : AllAt Y n g v (ordI S)) :
    KeepsFrom N X (Y.setCell ⟨Bi, 0, none⟩ (.int .i64 ((pre.length : Int) + 1))) ∧ KpL n g w.heap.size 1048576 v S X (Y.setCell ⟨Bi, 0, none⟩ (.int .i64 ((pre.length : Int) + 1))) ∧ wI w g B7 B9 An nn cn Ao no co S n Bi v (pre ++ [x]) (Y.setCell ⟨Bi, 0, none⟩ (.int .i64 ((pre.length : Int) + 1))) := by
  have hWZ := hW.boxed hb hw hA (.int .i64 ((pre.length : Int) + 1))
  have haZ := hat.boxed h1 h2 hv (.int .i64 ((pre.length : Int) + 1))
  have hKs := KeepsOthers.setCell Y ⟨Bi, 0, none⟩ (.int .i64 ((pre.length : Int) + 1))
  have hbZ : Boxed (Y.setCell ⟨Bi, 0, none⟩ (.int .i64 ((pre.length : Int) + 1))) Bi 3 (.int .i64 ((pre ++ [x]).length : Int)) := by
    rw [show (((pre ++ [x]).length : Nat) : Int) = (pre.length : Int) + 1 by rw [List.length_append]; rfl]
    exact Boxed.set _ hb
  exact ⟨hk.trans (hKs.from N), ⟨Nat.le_trans hs hKs.size, fun _ => ⟨haZ, T, hWZ.sk, hE⟩⟩, hbZ, ⟨T, hWZ, hE⟩, haZ⟩
def walkAx (p4 p5 p6 p7 p9 p14 : Value) (m : Nat) (x : Nat × IK) (a' : Act) (X : World) : Prop :=
  ∃ Bx u x17, m ≤ Bx ∧ X.heap[Bx]? = some (.cells (#[.string x.2.1, .int .u64 x.2.2.1, .int .i64 x.2.2.2]) 37 (0, 0)) ∧ a' = fr160 u p4 p5 p6 p7 p9 p14 (.int .i64 (x.1 : Int)) (.pointer (some ⟨Bx, 0, none⟩)) x17
theorem walkAx_of {p4 p5 p6 p7 p9 p14 : Value} {m : Nat} {x : Nat × IK} {a' : Act} {X : World} (Bx : Nat) (h1 : m ≤ Bx) (h2 : X.heap[Bx]? = some (.cells (#[.string x.2.1, .int .u64 x.2.2.1, .int .i64 x.2.2.2]) 37 (0, 0)))
    (h3 : a' = fr160 (fun k => a'.tmps.getD k undef) p4 p5 p6 p7 p9 p14 (.int .i64 (x.1 : Int)) (.pointer (some ⟨Bx, 0, none⟩)) (a'.tmps.getD 17 undef)) : walkAx p4 p5 p6 p7 p9 p14 m x a' X := ⟨Bx, _, _, h1, h2, h3⟩
def walkAx2 (p5 p6 p9 p14 : Value) (x : Nat × IK) (a' : Act) (_ : World) : Prop :=
  ∃ u p4 p7 x15 x16, a' = fr160 u p4 p5 p6 p7 p9 p14 x15 x16 (.int .i64 (x.1 : Int))
theorem walkAx2_of {p5 p6 p9 p14 : Value} {x : Nat × IK} {a' : Act} {X : World}
    (h3 : a' = fr160 (fun k => a'.tmps.getD k undef) (a'.tmps.getD 4 undef) p5 p6 (a'.tmps.getD 7 undef) p9 p14 (a'.tmps.getD 15 undef) (a'.tmps.getD 16 undef) (.int .i64 (x.1 : Int))) : walkAx2 p5 p6 p9 p14 x a' X := ⟨_, _, _, _, _, h3⟩
theorem both_waysW {K : Act → World → Prop} {Q' : Exit → Act → World → Prop} {e : Exit} {a : Act} {X : World} {id : Nat} (he : e = .normal ∨ e = .exit id) (h : K a X) : Exit.inBlock id (Exit.then K Q') e a X := by
  rcases he with rfl | rfl
  · exact h
  · show (if id = id then K a X else Q' (.exit id) a X)
    rw [if_pos rfl]
    exact h
theorem results_cW {P : Program} {fn : Func} {p : Tmp} {ty : TypeId} (h : fn.results = #[.cell p ty]) (tmps : Array Value) (w : World) (g : Nat) (x : Value)
    (hp : tmps.getD p undef = .pointer (some ⟨g, 0, none⟩)) (hg : w.cell? ⟨g, 0, none⟩ = some x) (hu : P.underlying ty = some .bool) :
    (results fn tmps).run P w = .ok x w := by
  have hp' : tmps[p]?.getD undef = .pointer (some ⟨g, 0, none⟩) := by simpa using hp
  simp [results, h, hp', asAddr, loadVar, isAgg, run_underlying hu, hg, go_sem]
theorem elems_get {S : SL Int} {pre : List (Nat × IK)} {x : Nat × IK} (h : pre ++ [x] <+: elems S) : ∃ hl : pre.length < S.order.length, x = (S.order[pre.length], S.key S.order[pre.length]) := by
  obtain ⟨t, ht⟩ := h
  have e : (elems S)[pre.length]? = some x := by rw [← ht]; simp
  unfold elems at e
  rw [List.getElem?_map] at e
  cases h2 : S.order[pre.length]? with
  | none => rw [h2] at e; cases e
  | some z =>
    obtain ⟨h3, h4⟩ := List.getElem?_eq_some_iff.1 h2
    rw [h2] at e
    refine ⟨h3, ?_⟩
    rw [h4]
    exact (Option.some.inj e).symm
set_option maxHeartbeats 64000000 in
set_option maxRecDepth 100000 in
theorem walks_calls (A : Option Addr) (c : Nat) (l : List Put08) (A1 : Option Addr) (c1 : Nat) (l1 : List Put08) (early : Int) (w : World) (hr : Kd.C PutK w A l.length l) (hc : l.length ≤ c) (hlen : l.length ≤ 1048576) (hr1 : Kd.C PutK w A1 l1.length l1) (hc1 : l1.length ≤ c1) (hlen1 : l1.length ≤ 1048576) :
    Calls Try.prog 3 #[.slice A l.length c, .slice A1 l1.length c1, .int .i64 early] w fun e w' => e = .returned (.bool true) ∧ Below w.heap.size w w' := by
  have HR0 := Aside0.mk hr
  have HR1 := Aside0.mk hr1
  have HC0 := Aside0.mk hc
  have HC1 := Aside0.mk hc1
  obtain ⟨m, hm⟩ : ∃ m, l.length = m := ⟨_, rfl⟩
  obtain ⟨n1, hn1⟩ : ∃ n1, l1.length = n1 := ⟨_, rfl⟩
  have HM := Aside0.mk hm
  have HN1 := Aside0.mk hn1
  rw [hm] at hlen
  rw [hn1] at hlen1
  rw [hm, hn1]
  obtain ⟨W0, hW0⟩ : ∃ W0, ((w.alloc (.cells #[.slice A1 n1 c1] 22)).alloc (.cells #[.int .i64 early] 3)).alloc (.cells #[.bool false] 4) = W0 := ⟨_, rfl⟩
  have hx0 : Boxed W0 w.heap.size 22 (.slice A1 n1 c1) := by rw [← hW0]; exact ((Boxed.new w 22 (.slice A1 n1 c1)).alloc _).alloc _
  have hx1 : Boxed W0 (w.heap.size + 1) 3 (.int .i64 early) := by
    have := (Boxed.new (w.alloc (.cells #[.slice A1 n1 c1] 22)) 3 (.int .i64 early)).alloc (.cells #[.bool false] 4)
    rw [World.size_alloc] at this
    rw [← hW0]; exact this
  have hx2 : Boxed W0 (w.heap.size + 2) 4 (.bool false) := by
    have := Boxed.new ((w.alloc (.cells #[.slice A1 n1 c1] 22)).alloc (.cells #[.int .i64 early] 3)) 4 (.bool false)
    rw [World.size_alloc, World.size_alloc] at this
    rw [← hW0]; exact this
  have HB0 := Aside0.mk (show Below w.heap.size w W0 by rw [← hW0]; exact below_alloc (below_alloc (below_alloc (Below.refl _ _) _) _) _)
  have HZ0 := Aside0.mk (show W0.heap.size = w.heap.size + 3 by rw [← hW0, World.size_alloc, World.size_alloc, World.size_alloc])
  have HX0 := Aside0.mk hx0
  have HX1 := Aside0.mk hx1
  have HX2 := Aside0.mk hx2
  have HW := Aside0.mk hW0
  have HNW := Aside0.mk (sk_new 1048576 W0 (by decide) (by decide))
  rw [show ((1048576 : Nat) : Int) = 1048576 from rfl] at HNW
  clear hr hc hr1 hc1 hm hn1 hW0 hx0 hx1 hx2
  refine (callsIn_wide (n := 4)).1 ?_
  refine callsIn_of_wp_marks Try.func3 rfl trivial ?_ rfl
  simp only [Try.ntmps3, List.size_toArray, List.length_cons, List.length_nil, Nat.reduceAdd, Nat.reduceSub, Array.replicate_succ, Array.replicate_zero, List.push_toArray, List.append_toArray, List.nil_append, List.cons_append]
  refine wpIn_noP ?_
  refine (wpIn_wide (n := 4)).2 ?_
  go_wp2_with fail
  rw [HW.out]
  (with_reducible refine HNW.out.mono ?_)
  rintro e w1 ⟨g, rfl, hsk, hb⟩
  obtain ⟨W1, hW1⟩ : ∃ W1, w1.alloc (.cells #[.pointer (some ⟨g, 0, none⟩)] 23) = W1 := ⟨_, rfl⟩
  have hba : Below w1.heap.size w1 W1 := by rw [← hW1]; exact below_alloc (Below.refl _ _) _
  obtain ⟨B7, hB7⟩ : ∃ B7, w1.heap.size = B7 := ⟨_, rfl⟩
  have HY := Aside0.mk (show Boxed W1 B7 23 (.pointer (some ⟨g, 0, none⟩)) by rw [← hW1, ← hB7]; exact Boxed.new w1 23 _)
  have HSK := Aside0.mk (hsk.below hba)
  have HB1 := Aside0.mk (below_step hb hba)
  have HW1 := Aside0.mk hW1
  have HB7 := Aside0.mk hB7
  clear hsk hb hba hW1 hB7 HNW HW
  go_wp2_with fail
  rw [HB7.out, HW1.out]
  clear HB7 HW1
  (with_reducible refine (moraineref08_New.calls 1048576 1048576 [] [] 0 W1 (by unfold moraineref08_New.f; rw [if_neg (by decide), if_neg (by decide)])).mono ?_)
  rintro e w2 ⟨v1, v2, rfl, hrn, hro, hb⟩
  obtain ⟨An, cn, rfl, _, _⟩ := Kd.R_reads hrn
  obtain ⟨Ao, co, rfl, _, _⟩ := Kd.R_reads hro
  obtain ⟨W2, hW2⟩ : ∃ W2, w2.alloc (.cells #[.int .i64 1048576, .slice An 0 cn, .slice Ao 0 co] 30) = W2 := ⟨_, rfl⟩
  have hba : Below w2.heap.size w2 W2 := by rw [← hW2]; exact below_alloc (Below.refl _ _) _
  have HWB := Aside0.mk (show WB W0 W2 g B7 w2.heap.size An 0 cn Ao 0 co SL.nil SL.nil from
    ⟨below_step (below_step HB1.out hb) hba, blk_below (blk_below HY.out hb) hba, by rw [← hW2]; exact World.alloc_heap_new w2 _, (below_step HB1.out hb).size,
      R_only (Kd.R_lower (Kd.R_below hrn hba) HB1.out.size) (fun _ _ _ _ _ _ h => M45 _ _ _ _ _ _ _ _ h), R_only (Kd.R_lower (Kd.R_below hro hba) HB1.out.size) (fun _ _ _ _ _ _ h => h), (HSK.out.below hb).below hba⟩)
  obtain ⟨B9, hB9⟩ : ∃ B9, w2.heap.size = B9 := ⟨_, rfl⟩
  rw [hB9] at HWB
  have HB9 := Aside0.mk hB9
  have HW2 := Aside0.mk hW2
  have y7 := HWB.out.lst.cell
  rw [← hW2] at y7
  clear hrn hro hb hba hW2 hB9 HB1 HY HSK
  go_wp2_with fail
  rw [HW2.out, HB9.out]
  (with_reducible refine (morainelaw08_names.calls true _ rfl).mono ?_)
  rintro e w3 ⟨rfl, hd⟩
  have HWB := Aside0.mk (HWB.out.later hd.below)
  clear hd y7 HW2 HB9
  go_wp2_with fail
  go_loopg [8, 11, 12] (1 + m) (fun kq v8 v11 v12 wr => ∃ (i : Nat) (S : SL Int) (An : Option Addr) (nn cn : Nat) (Ao : Option Addr) (no co : Nat), v11 = .int .i64 (i : Int) ∧ i ≤ m ∧ m - i < kq ∧ Aside0 (S.nodes.length ≤ i) ∧ Aside0 (WB W0 wr g B7 B9 An nn cn Ao no co S S))
  case atStart => exact ⟨0, SL.nil, _, _, _, _, _, _, rfl, Nat.zero_le _, by omega, ⟨Nat.le_refl _⟩, HWB⟩
  case round =>
    clear HWB
    obtain ⟨i, S, An, nn, cn, Ao, no, co, rfl, him, hkq, HSL, HWB⟩ := hrel
    cases gk with
    | zero => omega
    | succ gk1 =>
    by_cases hi : i < m
    · have b1 : decide ((i : Int) < (m : Int)) = true := decide_eq_true (by omega)
      have b1n : decide (i < m) = true := decide_eq_true hi
      have HBW := Aside0.mk (show ∀ X, Below W0.heap.size W0 X → Below w.heap.size w X from fun X h => below_step HB0.out h)
      obtain ⟨ad, x, hA, hx, c0, c1_, c2, c3⟩ := at_put HR0.out i (by rw [HM.out]; exact hi)
      subst hA
      obtain ⟨⟨ks, kn, kd⟩, xh⟩ := x
      dsimp only at c0 c1_ c2 c3
      have HIN := Aside0.mk (show ∀ W, SkAt W g W0.heap.size S 1048576 → Calls Try.prog 13 #[.pointer (some ⟨g, 0, none⟩), .agg #[.string ks, .int .u64 kn, .int .i64 kd], .int .i64 (i : Int), .int .i64 xh] W fun e w' => e = .returned (.int .i64 (insC S 1048576 (ks, kn, kd) xh)) ∧ SkAt w' g W0.heap.size (insS S 1048576 (ks, kn, kd) (i : Int) xh) 1048576 ∧ Below W0.heap.size W w' ∧ Kept W w' (Turns W g W0.heap.size) from fun W h =>
        sk_insert g W0.heap.size 1048576 S (ks, kn, kd) (i : Int) xh W h)
      have hsl := HSL.out
      have HREF := Aside0.mk (rinsert_eq noV HWB.out.sk.fine.1 (by omega) 1048576 (Nat.le_refl _) (ks, kn, kd) (i : Int) xh 2097152 (by omega))
      rw [show noV (i : Int) = ⟨#[]⟩ from rfl, show ((1048576 : Nat) : Int) = 1048576 from rfl] at HREF
      have HSL2 := Aside0.mk (show (insS S 1048576 (ks, kn, kd) (i : Int) xh).nodes.length ≤ i + 1 by
        unfold insS
        split
        · simp [SL.put]; omega
        · omega)
      obtain ⟨ic, hic⟩ : ∃ ic, insC S 1048576 (ks, kn, kd) xh = ic := ⟨_, rfl⟩
      obtain ⟨S2, hS2⟩ : ∃ S2, insS S 1048576 (ks, kn, kd) (i : Int) xh = S2 := ⟨_, rfl⟩
      rw [hic, hS2] at HIN HREF
      rw [hS2] at HSL2
      have l0 := World.block_lt_of_cell? w _ c0
      have HQ := Aside0.mk (fun (W : World) (hb : Below w.heap.size w W) => (⟨(hb.cell l0).trans c0, (hb.cell (World.block_lt_of_cell? w _ c1_)).trans c1_, (hb.cell (World.block_lt_of_cell? w _ c2)).trans c2, (hb.cell (World.block_lt_of_cell? w _ c3)).trans c3⟩ : W.cell? (ad.add (i * 4)) = some (.string ks) ∧ W.cell? ⟨(ad.add (i * 4)).block, (ad.add (i * 4)).off + 1, none⟩ = some (.int .u64 kn) ∧ W.cell? ⟨(ad.add (i * 4)).block, (ad.add (i * 4)).off + 2, none⟩ = some (.int .i64 kd) ∧ W.cell? ⟨(ad.add (i * 4)).block, (ad.add (i * 4)).off + 3, none⟩ = some (.int .i64 xh)))
      obtain ⟨f0, f1, f2, f3⟩ := HQ.out wr (HBW.out _ HWB.out.below)
      have y7 := HWB.out.lst.cell
      have him2 : (i : Int) ≤ 1048576 := by omega
      clear c0 c1_ c2 c3 hx hic hS2 l0 hsl HSL
      go_wp2_with fail
      refine start_ (n := 14) (S := fun w' => w'.cell? ⟨B7, 0, none⟩ = some (.pointer (some ⟨g, 0, none⟩)) ∧ w'.cell? (ad.add (i * 4)) = some (.string ks) ∧ w'.cell? ⟨(ad.add (i * 4)).block, (ad.add (i * 4)).off + 1, none⟩ = some (.int .u64 kn) ∧ w'.cell? ⟨(ad.add (i * 4)).block, (ad.add (i * 4)).off + 2, none⟩ = some (.int .i64 kd) ∧ w'.cell? ⟨(ad.add (i * 4)).block, (ad.add (i * 4)).off + 3, none⟩ = some (.int .i64 xh)) (ds := []) #[false, false, false, false, false, false, false, false, false, false, false, false, false, false] (by kernel_rfl) rfl rfl ⟨y7, f0, f1, f2, f3⟩ (fun hHeld => ?_)
      refine pure_ (i := 1) (N := some 43) (v := ?_) (a' := ?_) #[false, true, false, false, false, false, false, false, false, false, false, false, false, false] rfl rfl (by kernel_rfl) (fun _ _ _ h => h) (Or.inl ⟨by rfl, ?_⟩) ?_ ?_
      rotate_left
      · intro w'
        go_simp
        with_reducible rfl
      rotate_left
      · simp only [Act.put, List.setIfInBounds_toArray, List.set_cons_zero, List.set_cons_succ, i64_w, i32_w]
        rfl
      refine pure_ (i := 2) (N := some 44) (v := ?_) (a' := ?_) #[false, true, true, false, false, false, false, false, false, false, false, false, false, false] rfl rfl (by kernel_rfl) (fun _ _ _ h => h) (Or.inl ⟨by rfl, ?_⟩) ?_ ?_
      rotate_left
      · intro w'
        go_simp
        with_reducible rfl
      rotate_left
      · simp only [Act.put, List.setIfInBounds_toArray, List.set_cons_zero, List.set_cons_succ, i64_w, i32_w]
        rfl
      refine pure_ (i := 3) (N := some 45) (v := ?_) (a' := ?_) #[false, true, true, true, false, false, false, false, false, false, false, false, false, false] rfl rfl (by kernel_rfl) (fun _ _ _ h => h) (Or.inl ⟨by rfl, ?_⟩) ?_ ?_
      rotate_left
      · intro w'
        go_simp
        with_reducible rfl
      rotate_left
      · simp only [Act.put, List.setIfInBounds_toArray, List.set_cons_zero, List.set_cons_succ, i64_w, i32_w]
        rfl
      refine pure_ (i := 4) (N := some 46) (v := ?_) (a' := ?_) #[false, true, true, true, true, false, false, false, false, false, false, false, false, false] rfl rfl (by kernel_rfl) (fun _ _ _ h => h) (Or.inl ⟨by rfl, ?_⟩) ?_ ?_
      rotate_left
      · intro w'
        go_simp
        with_reducible rfl
      rotate_left
      · simp only [Act.put, List.setIfInBounds_toArray, List.set_cons_zero, List.set_cons_succ, i64_w, i32_w]
        rfl
      refine pure_ (i := 6) (N := some 48) (v := ?_) (a' := ?_) #[false, true, true, true, true, false, true, false, false, false, false, false, false, false] rfl rfl (by kernel_rfl) (fun _ _ _ h => h) (Or.inl ⟨by rfl, ?_⟩) ?_ ?_
      rotate_left
      · intro w'
        go_simp
        with_reducible rfl
      rotate_left
      · simp only [Act.put, List.setIfInBounds_toArray, List.set_cons_zero, List.set_cons_succ, i64_w, i32_w]
        rfl
      refine pure_ (i := 7) (N := some 49) (v := ?_) (a' := ?_) #[false, true, true, true, true, false, true, true, false, false, false, false, false, false] rfl rfl (by kernel_rfl) (fun _ _ _ h => h) (Or.inl ⟨by rfl, ?_⟩) ?_ ?_
      rotate_left
      · intro w'
        go_simp
        with_reducible rfl
      rotate_left
      · simp only [Act.put, List.setIfInBounds_toArray, List.set_cons_zero, List.set_cons_succ, i64_w, i32_w]
        rfl
      refine pure_ (i := 8) (N := some 50) (v := ?_) (a' := ?_) #[false, true, true, true, true, false, true, true, true, false, false, false, false, false] rfl rfl (by kernel_rfl) (fun _ _ _ h => h) (Or.inl ⟨by rfl, ?_⟩) ?_ ?_
      rotate_left
      · intro w'
        go_simp
        with_reducible rfl
      rotate_left
      · simp only [Act.put, List.setIfInBounds_toArray, List.set_cons_zero, List.set_cons_succ, i64_w, i32_w]
        rfl
      refine pure_ (i := 9) (N := some 51) (v := ?_) (a' := ?_) #[false, true, true, true, true, false, true, true, true, true, false, false, false, false] rfl rfl (by kernel_rfl) (fun _ _ _ h => h) (Or.inl ⟨by rfl, ?_⟩) ?_ ?_
      rotate_left
      · intro w'
        go_simp
        with_reducible rfl
      rotate_left
      · simp only [Act.put, List.setIfInBounds_toArray, List.set_cons_zero, List.set_cons_succ, i64_w, i32_w]
        rfl
      refine pure_ (i := 10) (N := some 52) (v := ?_) (a' := ?_) #[false, true, true, true, true, false, true, true, true, true, true, false, false, false] rfl rfl (by kernel_rfl) (fun _ _ _ h => h) (Or.inl ⟨by rfl, ?_⟩) ?_ ?_
      rotate_left
      · intro w'
        go_simp
        with_reducible rfl
      rotate_left
      · simp only [Act.put, List.setIfInBounds_toArray, List.set_cons_zero, List.set_cons_succ, i64_w, i32_w]
        rfl
      refine take_ (i := 0) (N := some 42) (v := ?_) (a' := ?_) #[true, true, true, true, true, false, true, true, true, true, true, false, false, false] rfl rfl (by kernel_rfl) (fun _ _ _ h => h) (Or.inl ⟨by rfl, ?_⟩) hHeld ?_ ?_
      rotate_left
      · rintro w' ⟨s0, s1, s2, s3, s4⟩
        go_simp
        with_reducible rfl
      rotate_left
      · simp only [Act.put, List.setIfInBounds_toArray, List.set_cons_zero, List.set_cons_succ, i64_w, i32_w]
        rfl
      refine take_ (i := 5) (N := some 47) (v := ?_) (a' := ?_) #[true, true, true, true, true, true, true, true, true, true, true, false, false, false] rfl rfl (by kernel_rfl) (fun _ _ _ h => h) (Or.inl ⟨by rfl, ?_⟩) hHeld ?_ ?_
      rotate_left
      · rintro w' ⟨s0, s1, s2, s3, s4⟩
        go_simp
        with_reducible rfl
      rotate_left
      · simp only [Act.put, List.setIfInBounds_toArray, List.set_cons_zero, List.set_cons_succ, i64_w, i32_w]
        rfl
      refine take_ (i := 11) (N := some 53) (v := ?_) (a' := ?_) #[true, true, true, true, true, true, true, true, true, true, true, true, false, false] rfl rfl (by kernel_rfl) (fun _ _ _ h => h) (Or.inl ⟨by rfl, ?_⟩) hHeld ?_ ?_
      rotate_left
      · rintro w' ⟨s0, s1, s2, s3, s4⟩
        go_simp
        with_reducible rfl
      rotate_left
      · simp only [Act.put, List.setIfInBounds_toArray, List.set_cons_zero, List.set_cons_succ, i64_w, i32_w]
        rfl
      refine one_ (i := 12) (N := some 54) #[true, true, true, true, true, true, true, true, true, true, true, true, true, false] rfl rfl (by kernel_rfl) (by decide) (fun K hK => ?_)
      refine goes_ Try.func13 (by kernel_rfl) rfl #[.pointer (some ⟨g, 0, none⟩), .agg #[.string ks, .int .u64 kn, .int .i64 kd], .int .i64 (i : Int), .int .i64 xh] (by rfl) rfl rfl (by simp only [List.map_toArray, List.map_cons, List.map_nil]; rfl) ?_
      with_reducible refine (HIN.out _ (HWB.out.sk.below (below_drew1 (Below.refl _ _)))).mono ?_
      rintro e w4 ⟨rfl, hsk, hb, hk⟩
      refine ⟨_, rfl, ?_⟩
      have HWB4 := Aside0.mk (show WB W0 w4 g B7 B9 An nn cn Ao no co S S2 from (HWB.out.later (below_drew1 (Below.refl _ _))).turned hk hb hsk)
      clear hsk hb hk
      refine hK.out _ _ ⟨HWB4.out.lst.cell, (HQ.out _ (HBW.out _ HWB4.out.below)).1, (HQ.out _ (HBW.out _ HWB4.out.below)).2.1, (HQ.out _ (HBW.out _ HWB4.out.below)).2.2.1, (HQ.out _ (HBW.out _ HWB4.out.below)).2.2.2⟩ (fun hHeld => ?_)
      clear hK K
      refine norm_ (a' := ?_) ?_ ?_
      rotate_left
      · show Act.put _ (some 54) _ = _
        simp only [Act.put, List.setIfInBounds_toArray, List.set_cons_zero, List.set_cons_succ, i64_w, i32_w]
        rfl
      refine pure_ (i := 13) (N := some 8) (v := ?_) (a' := ?_) #[true, true, true, true, true, true, true, true, true, true, true, true, true, true] rfl rfl (by kernel_rfl) (fun _ _ _ h => h) (Or.inl ⟨by rfl, ?_⟩) ?_ ?_
      rotate_left
      · intro w'
        go_simp
        with_reducible rfl
      rotate_left
      · simp only [Act.put, List.setIfInBounds_toArray, List.set_cons_zero, List.set_cons_succ, i64_w, i32_w]
        rfl
      refine done_ (by kernel_rfl) ?_
      clear hHeld f0 f1 f2 f3 y7 HWB HIN
      obtain ⟨f0, f1, f2, f3⟩ := HQ.out w4 (HBW.out _ HWB4.out.below)
      have r0 : w4.cell? ⟨B9, 0, none⟩ = some (.int .i64 1048576) := (blk_cell HWB4.out.ref 0).trans rfl
      have r1 : w4.cell? ⟨B9, 1, none⟩ = some (.slice An nn cn) := (blk_cell HWB4.out.ref 1).trans rfl
      have r2 : w4.cell? ⟨B9, 2, none⟩ = some (.slice Ao no co) := (blk_cell HWB4.out.ref 2).trans rfl
      go_wp2_with fail
      refine start_ (n := 17) (S := fun w' => w'.cell? ⟨B9, 0, none⟩ = some (.int .i64 1048576) ∧ w'.cell? ⟨B9, 1, none⟩ = some (.slice An nn cn) ∧ w'.cell? ⟨B9, 2, none⟩ = some (.slice Ao no co) ∧ w'.cell? (ad.add (i * 4)) = some (.string ks) ∧ w'.cell? ⟨(ad.add (i * 4)).block, (ad.add (i * 4)).off + 1, none⟩ = some (.int .u64 kn) ∧ w'.cell? ⟨(ad.add (i * 4)).block, (ad.add (i * 4)).off + 2, none⟩ = some (.int .i64 kd) ∧ w'.cell? ⟨(ad.add (i * 4)).block, (ad.add (i * 4)).off + 3, none⟩ = some (.int .i64 xh)) (ds := [15]) #[false, false, false, false, false, false, false, false, false, false, false, false, false, false, false, false, false] (by kernel_rfl) rfl rfl ⟨r0, r1, r2, f0, f1, f2, f3⟩ (fun hHeld => ?_)
      refine pure_ (i := 1) (N := some 57) (v := ?_) (a' := ?_) #[false, true, false, false, false, false, false, false, false, false, false, false, false, false, false, false, false] rfl rfl (by kernel_rfl) (fun _ _ _ h => h) (Or.inl ⟨by rfl, ?_⟩) ?_ ?_
      rotate_left
      · intro w'
        go_simp
        with_reducible rfl
      rotate_left
      · simp only [Act.put, List.setIfInBounds_toArray, List.set_cons_zero, List.set_cons_succ, i64_w, i32_w]
        rfl
      refine pure_ (i := 2) (N := some 58) (v := ?_) (a' := ?_) #[false, true, true, false, false, false, false, false, false, false, false, false, false, false, false, false, false] rfl rfl (by kernel_rfl) (fun _ _ _ h => h) (Or.inl ⟨by rfl, ?_⟩) ?_ ?_
      rotate_left
      · intro w'
        go_simp
        with_reducible rfl
      rotate_left
      · simp only [Act.put, List.setIfInBounds_toArray, List.set_cons_zero, List.set_cons_succ, i64_w, i32_w]
        rfl
      refine pure_ (i := 3) (N := some 59) (v := ?_) (a' := ?_) #[false, true, true, true, false, false, false, false, false, false, false, false, false, false, false, false, false] rfl rfl (by kernel_rfl) (fun _ _ _ h => h) (Or.inl ⟨by rfl, ?_⟩) ?_ ?_
      rotate_left
      · intro w'
        go_simp
        with_reducible rfl
      rotate_left
      · simp only [Act.put, List.setIfInBounds_toArray, List.set_cons_zero, List.set_cons_succ, i64_w, i32_w]
        rfl
      refine pure_ (i := 4) (N := some 60) (v := ?_) (a' := ?_) #[false, true, true, true, true, false, false, false, false, false, false, false, false, false, false, false, false] rfl rfl (by kernel_rfl) (fun _ _ _ h => h) (Or.inl ⟨by rfl, ?_⟩) ?_ ?_
      rotate_left
      · intro w'
        go_simp
        with_reducible rfl
      rotate_left
      · simp only [Act.put, List.setIfInBounds_toArray, List.set_cons_zero, List.set_cons_succ, i64_w, i32_w]
        rfl
      refine pure_ (i := 6) (N := some 62) (v := ?_) (a' := ?_) #[false, true, true, true, true, false, true, false, false, false, false, false, false, false, false, false, false] rfl rfl (by kernel_rfl) (fun _ _ _ h => h) (Or.inl ⟨by rfl, ?_⟩) ?_ ?_
      rotate_left
      · intro w'
        go_simp
        with_reducible rfl
      rotate_left
      · simp only [Act.put, List.setIfInBounds_toArray, List.set_cons_zero, List.set_cons_succ, i64_w, i32_w]
        rfl
      refine pure_ (i := 7) (N := some 63) (v := ?_) (a' := ?_) #[false, true, true, true, true, false, true, true, false, false, false, false, false, false, false, false, false] rfl rfl (by kernel_rfl) (fun _ _ _ h => h) (Or.inl ⟨by rfl, ?_⟩) ?_ ?_
      rotate_left
      · intro w'
        go_simp
        with_reducible rfl
      rotate_left
      · simp only [Act.put, List.setIfInBounds_toArray, List.set_cons_zero, List.set_cons_succ, i64_w, i32_w]
        rfl
      refine pure_ (i := 8) (N := some 64) (v := ?_) (a' := ?_) #[false, true, true, true, true, false, true, true, true, false, false, false, false, false, false, false, false] rfl rfl (by kernel_rfl) (fun _ _ _ h => h) (Or.inl ⟨by rfl, ?_⟩) ?_ ?_
      rotate_left
      · intro w'
        go_simp
        with_reducible rfl
      rotate_left
      · simp only [Act.put, List.setIfInBounds_toArray, List.set_cons_zero, List.set_cons_succ, i64_w, i32_w]
        rfl
      refine pure_ (i := 9) (N := some 65) (v := ?_) (a' := ?_) #[false, true, true, true, true, false, true, true, true, true, false, false, false, false, false, false, false] rfl rfl (by kernel_rfl) (fun _ _ _ h => h) (Or.inl ⟨by rfl, ?_⟩) ?_ ?_
      rotate_left
      · intro w'
        go_simp
        with_reducible rfl
      rotate_left
      · simp only [Act.put, List.setIfInBounds_toArray, List.set_cons_zero, List.set_cons_succ, i64_w, i32_w]
        rfl
      refine take_ (i := 0) (N := some 56) (v := ?_) (a' := ?_) #[true, true, true, true, true, false, true, true, true, true, false, false, false, false, false, false, false] rfl rfl (by kernel_rfl) (fun _ _ _ h => h) (Or.inl ⟨by rfl, ?_⟩) hHeld ?_ ?_
      rotate_left
      · rintro w' ⟨s0, s1, s2, s3, s4, s5, s6⟩
        go_simp
        with_reducible rfl
      rotate_left
      · simp only [Act.put, List.setIfInBounds_toArray, List.set_cons_zero, List.set_cons_succ, i64_w, i32_w]
        rfl
      refine take_ (i := 5) (N := some 61) (v := ?_) (a' := ?_) #[true, true, true, true, true, true, true, true, true, true, false, false, false, false, false, false, false] rfl rfl (by kernel_rfl) (fun _ _ _ h => h) (Or.inl ⟨by rfl, ?_⟩) hHeld ?_ ?_
      rotate_left
      · rintro w' ⟨s0, s1, s2, s3, s4, s5, s6⟩
        go_simp
        with_reducible rfl
      rotate_left
      · simp only [Act.put, List.setIfInBounds_toArray, List.set_cons_zero, List.set_cons_succ, i64_w, i32_w]
        rfl
      refine take_ (i := 10) (N := some 66) (v := ?_) (a' := ?_) #[true, true, true, true, true, true, true, true, true, true, true, false, false, false, false, false, false] rfl rfl (by kernel_rfl) (fun _ _ _ h => h) (Or.inl ⟨by rfl, ?_⟩) hHeld ?_ ?_
      rotate_left
      · rintro w' ⟨s0, s1, s2, s3, s4, s5, s6⟩
        go_simp
        with_reducible rfl
      rotate_left
      · simp only [Act.put, List.setIfInBounds_toArray, List.set_cons_zero, List.set_cons_succ, i64_w, i32_w]
        rfl
      refine one_ (i := 11) (N := some 67) #[true, true, true, true, true, true, true, true, true, true, true, true, false, false, false, false, false] rfl rfl (by kernel_rfl) (by decide) (fun K hK => ?_)
      refine goes_ Try.func14 (by kernel_rfl) rfl #[.agg #[.int .i64 1048576, .slice An nn cn, .slice Ao no co], .agg #[.string ks, .int .u64 kn, .int .i64 kd], .string ⟨#[]⟩, .int .i64 xh] (by rfl) rfl rfl (by simp only [List.map_toArray, List.map_cons, List.map_nil]; rfl) ?_
      with_reducible refine (moraineref08_List_Insert.calls 2097152 1048576 (fun q => (Value.slice An nn cn).ownBlock = some q) (.slice An nn cn) (nodesR noV S) (fun q => (Value.slice Ao no co).ownBlock = some q) (.slice Ao no co) (ordR S) ks kn kd ⟨#[]⟩ xh 1048576 (nodesR noV S2) (ordR S2) ic W0 _ (HWB4.out.later (below_drew1 (Below.refl _ _))).below (HWB4.out.later (below_drew1 (Below.refl _ _))).rn (HWB4.out.later (below_drew1 (Below.refl _ _))).ro HREF.out).mono ?_
      rintro e w5 ⟨v1, v2, rfl, hrn, hro, hb, hk⟩
      refine ⟨_, rfl, ?_⟩
      obtain ⟨An2, cn2, rfl, _, _⟩ := Kd.R_reads hrn
      obtain ⟨Ao2, co2, rfl, _, _⟩ := Kd.R_reads hro
      obtain ⟨nn2, hnn2⟩ : ∃ n, (nodesR noV S2).length = n := ⟨_, rfl⟩
      obtain ⟨no2, hno2⟩ : ∃ n, (ordR S2).length = n := ⟨_, rfl⟩
      rw [hnn2] at hrn ⊢
      rw [hno2] at hro ⊢
      have HRF := Aside0.mk (fun Z hZ => (HWB4.out.later (below_drew1 (Below.refl _ _))).reffed hk hb hrn hro (Z := Z) hZ)
      have h9 : w5.heap[B9]? = some (.cells #[.int .i64 1048576, .slice An nn cn, .slice Ao no co] 30 (0, 0)) := HWB4.out.refB9 (below_drew1 (Below.refl _ _)) hk
      have t0 : w5.cell? ⟨B9, 0, none⟩ = some (.int .i64 1048576) := (blk_cell h9 0).trans rfl
      have t1 : w5.cell? ⟨B9, 1, none⟩ = some (.slice An nn cn) := (blk_cell h9 1).trans rfl
      have t2 : w5.cell? ⟨B9, 2, none⟩ = some (.slice Ao no co) := (blk_cell h9 2).trans rfl
      have t3 := blk_frozen h9 0
      have t4 := blk_frozen h9 1
      have t5 := blk_frozen h9 2
      have HB5 := Aside0.mk (HBW.out _ hb)
      clear hrn hro hb hk h9 hnn2 hno2
      refine hK.out _ _ ⟨t0, t1, t2, (HQ.out _ HB5.out).1, (HQ.out _ HB5.out).2.1, (HQ.out _ HB5.out).2.2.1, (HQ.out _ HB5.out).2.2.2⟩ (fun hHeld => ?_)
      clear hK K
      refine norm_ (a' := ?_) ?_ ?_
      rotate_left
      · show Act.put _ (some 67) _ = _
        simp only [Act.put, List.setIfInBounds_toArray, List.set_cons_zero, List.set_cons_succ, i64_w, i32_w]
        rfl
      refine pure_ (i := 12) (N := some 55) (v := ?_) (a' := ?_) #[true, true, true, true, true, true, true, true, true, true, true, true, true, false, false, false, false] rfl rfl (by kernel_rfl) (fun _ _ _ h => h) (Or.inl ⟨by rfl, ?_⟩) ?_ ?_
      rotate_left
      · intro w'
        go_simp
        with_reducible rfl
      rotate_left
      · simp only [Act.put, List.setIfInBounds_toArray, List.set_cons_zero, List.set_cons_succ, i64_w, i32_w]
        rfl
      refine pure_ (i := 13) (N := some 68) (v := ?_) (a' := ?_) #[true, true, true, true, true, true, true, true, true, true, true, true, true, true, false, false, false] rfl rfl (by kernel_rfl) (fun _ _ _ h => h) (Or.inl ⟨by rfl, ?_⟩) ?_ ?_
      rotate_left
      · intro w'
        go_simp
        with_reducible rfl
      rotate_left
      · simp only [Act.put, List.setIfInBounds_toArray, List.set_cons_zero, List.set_cons_succ, i64_w, i32_w]
        rfl
      refine pure_ (i := 14) (N := some 69) (v := ?_) (a' := ?_) #[true, true, true, true, true, true, true, true, true, true, true, true, true, true, true, false, false] rfl rfl (by kernel_rfl) (fun _ _ _ h => h) (Or.inl ⟨by rfl, ?_⟩) ?_ ?_
      rotate_left
      · intro w'
        go_simp
        with_reducible rfl
      rotate_left
      · simp only [Act.put, List.setIfInBounds_toArray, List.set_cons_zero, List.set_cons_succ, i64_w, i32_w]
        rfl
      refine last_ (i := 15) (N := none) #[true, true, true, true, true, true, true, true, true, true, true, true, true, true, true, true, false] rfl rfl (by kernel_rfl) (by decide) (fun K hK => ?_)
      refine skip_ (w1 := ?_) (by rfl) rfl ?_ ?_
      rotate_left
      · go_simp
        rfl
      generalize hZ : ((w5.setCell _ _).setCell _ _).setCell _ _ = w6
      have HWB6 := Aside0.mk (HRF.out w6 hZ)
      clear hZ
      refine hK.out _ _ ?_
      clear hK K
      refine pure_ (i := 16) (N := some 12) (v := ?_) (a' := ?_) #[true, true, true, true, true, true, true, true, true, true, true, true, true, true, true, true, true] rfl rfl (by kernel_rfl) (fun _ _ _ h => h) (Or.inl ⟨by rfl, ?_⟩) ?_ ?_
      rotate_left
      · intro w'
        go_simp
        with_reducible rfl
      rotate_left
      · simp only [Act.put, List.setIfInBounds_toArray, List.set_cons_zero, List.set_cons_succ, i64_w, i32_w]
        rfl
      refine done_ (by kernel_rfl) ?_
      clear hHeld f0 f1 f2 f3 r0 r1 r2 t0 t1 t2 t3 t4 t5 HRF HB5 HWB4
      have b2 : (ic != ic) = false := by simp
      have HIM := Aside0.mk (show i + 1 ≤ m by omega)
      have HKQ := Aside0.mk (show m - (i + 1) < gk1 by omega)
      go_wp2
      go_roundg gk1
      case measure => have := HKQ.out; omega
      case rel => exact ⟨i + 1, S2, _, _, _, _, _, _, by go_num, HIM.out, HKQ.out, HSL2, HWB6⟩
    · obtain rfl : i = m := by omega
      have b1 : decide ((i : Int) < (i : Int)) = false := decide_eq_false (by omega)
      have b1n : decide (i < i) = false := decide_eq_false (by omega)
      have HSF := Aside0.mk (show S.Fine ∧ S.nodes.length ≤ 1048576 from ⟨HWB.out.sk.fine.1, HWB.out.sk.fine.2.1⟩)
      have hnn : (nodesR noV S).length = nn := (Kd.R_reads' HWB.out.rn).1.symm
      have hno : (ordR S).length = no := (Kd.R_reads' HWB.out.ro).1.symm
      rw [nodesR_len] at hnn
      rw [ordR_len] at hno
      have HNN := Aside0.mk hnn
      have HNO := Aside0.mk hno
      have y7 := HWB.out.lst.cell
      have HAL := Aside0.mk (sk_all g W0.heap.size 1048576 S wr HWB.out.sk)
      have HWQ := Aside0.mk (show w.heap.size + 3 ≤ wr.heap.size by rw [← HZ0.out]; exact HWB.out.below.size)
      have HAo := Aside0.mk (show ∀ q, (Value.slice Ao no co).ownBlock = some q → q < wr.heap.size from fun q hq => Kd.R_lt HWB.out.ro q hq)
      clear hnn hno HSL hkq him
      go_wp2_with fail
      (with_reducible refine HAL.out.mono ?_)
      rintro e w4 ⟨v, rfl, hat, hb⟩
      obtain ⟨n0, hn0⟩ : ∃ n0, wr.heap.size = n0 := ⟨_, rfl⟩
      rw [hn0] at hat HWQ HAo ⊢
      have HAT := Aside0.mk hat
      have HWB := Aside0.mk (HWB.out.later hb)
      have HN0 := Aside0.mk (show n0 + 1 < w4.heap.size from blk_lt hat.box)
      have HVO := Aside0.mk (show ∀ q, v.ownBlock = some q → q < w4.heap.size from fun q hq => Kd.R_lt hat.row q hq)
      clear hb y7 HAL hat hn0
      have hcmp : ∀ (lb : Array Value) (X : World), (binOp .eql 42 (.func (.func 45) #[] lb) .nilFunc).run Try.prog X = .ok (.bool false) X := by
        intro lb X
        first | rfl | (simp [binOp, go_sem]; done) | (unfold binOp; simp [go_sem, Try.underlying42]; done)
      go_wp2_with fail
      obtain ⟨W5, hW5⟩ : ∃ W5, w4.alloc (.cells #[.int .i64 0] 3) = W5 := ⟨_, rfl⟩
      obtain ⟨Bi, hBi⟩ : ∃ Bi, w4.heap.size = Bi := ⟨_, rfl⟩
      have HBI := Aside0.mk (show Boxed W5 Bi 3 (.int .i64 0) by rw [← hW5, ← hBi]; exact Boxed.new w4 3 _)
      have hba : Below w4.heap.size w4 W5 := by rw [← hW5]; exact below_alloc (Below.refl _ _) _
      have HWB := Aside0.mk (HWB.out.later hba)
      have HAT := Aside0.mk (HAT.out.below hba)
      rw [hBi] at HN0 HVO
      have hz5 : W5.heap.size = Bi + 1 := by rw [← hW5, World.size_alloc, hBi]
      rw [hBi, hW5]
      have HZ5 := Aside0.mk hz5
      have HWi := Aside0.mk (show W0.heap.size ≤ Bi by have h1 := HWQ.out; have h2 := HN0.out; have h3 := HZ0.out; omega)
      have HAo2 := Aside0.mk (show ∀ q, (Value.slice Ao no co).ownBlock = some q → q ≠ Bi from fun q hq => by have h1 := HAo.out q hq; have h2 := HN0.out; omega)
      have HVO2 := Aside0.mk (show ∀ q, v.ownBlock = some q → q ≠ Bi from fun q hq => by have := HVO.out q hq; omega)
      have HNE := Aside0.mk (show n0 ≠ Bi ∧ n0 + 1 ≠ Bi by have := HN0.out; omega)
      clear hW5 hBi hba hcmp hz5 HAo HVO
      refine (wpIn_wide (n := 3)).1 ?_
      refine known_range2 (n := 3) (F := Fence.wide) 2 rfl (by decide) (gf := 45) (lb := #[.pointer (some ⟨n0 + 1, 0, none⟩), .pointer (some ⟨n0, 0, none⟩)]) rfl trivial (enters_of Try.func45 (by kernel_rfl) rfl)
        (all_known n0 g W0.heap.size 1048576 v S HSF.out W5 ⟨HAT.out, S, HWB.out.sk, Ext.refl S⟩) KpL.trans (fun X r r' h => KpL.grown (grownBy_putObj' X _ _) (fun q e => by cases e; exact ⟨_, h, rfl⟩)) (Below.refl _ _) (fun _ => rfl)
        (wI W0 g B7 B9 An nn cn Ao no co S n0 Bi v) (fun _ _ => False) (wI_own (by rw [HZ5.out]; have := HWi.out; omega)) (fun _ _ _ _ h _ _ => h) ⟨HBI.out, ⟨S, HWB.out, Ext.refl S⟩, HAT.out⟩
        (walkAx (.pointer (some ⟨w.heap.size, 0, none⟩)) (.pointer (some ⟨w.heap.size + 1, 0, none⟩)) (.pointer (some ⟨w.heap.size + 1 + 1, 0, none⟩)) (.pointer (some ⟨B7, 0, none⟩)) (.pointer (some ⟨B9, 0, none⟩)) (.pointer (some ⟨Bi, 0, none⟩)) W5.heap.size) ?ax ?assign ?body ?done
      case ax =>
        rintro x a' _ X Y row ⟨Bx, u, x17, h1, h2, h3⟩ hg hr
        exact ⟨Bx, u, x17, h1, cells_own Bx _ _ X Y row h2 hg (fun r e => (hr r e).2), h3⟩
      case assign =>
        rintro pre x X K hI hK
        simp only [encE]
        gi_wp2
        have hsz : W5.heap.size ≤ X.heap.size := by rw [HZ5.out]; exact blk_lt hI.1
        exact hK _ _ ((KeepsOthers.alloc X _).from _) (KpL.below (below_alloc (Below.refl _ _) _)) ((wI_own (Nat.le_refl W0.heap.size)).alloc _ hI) (walkAx_of X.heap.size hsz (World.alloc_heap_new X _) rfl)
      case body =>
        rintro pre x a' X hX ⟨hbi, ⟨T, hwb, hext⟩, hat⟩ ⟨Bx, u, x17, hBx, hbx, rfl⟩ hpre
        obtain ⟨hpl, hx⟩ := elems_get hpre
        have hzm := HSF.out.1.mem _ (List.getElem_mem hpl)
        have hrd := ordR_at hpl
        obtain ⟨z, hz⟩ : ∃ z, S.order[pre.length] = z := ⟨_, rfl⟩
        rw [hz] at hx hzm hrd
        obtain ⟨⟨ks, kn, kd⟩, hkk⟩ : ∃ k, S.key z = k := ⟨_, rfl⟩
        obtain ⟨xx, _, hxx⟩ := nodesR_at noV hzm.1 hzm.2
        rw [hkk] at hx hxx
        subst hx
        dsimp only at hbx
        have hnoo := HNO.out
        have hnno := HNN.out
        have hsl := HSF.out.2
        have hol := HSF.out.1.len
        have hq1 := ordR_len S
        have hq2 := nodesR_len noV S
        obtain ⟨ad, hA, a0⟩ := Kd.at_int (Kd.R_reads' hwb.ro).2.2 (pre.length : Int) (by omega) (by omega)
        subst hA
        rw [hrd, Int.toNat_natCast] at a0
        obtain ⟨ad2, hA2, e0, e1, e2, _, _⟩ := at_T45 (Kd.R_reads' hwb.rn).2.2 ((z : Int) - 1) (by omega) (by omega)
        subst hA2
        rw [hxx] at e0 e1 e2
        dsimp only [sK] at e0 e1 e2
        have e0' := e0
        have e1' := e1
        have e2' := e2
        rw [show ((z : Int) - 1).toNat = z - 1 by omega] at e0' e1' e2'
        have ko := hbi.cell
        have kf := hbi.frozen
        have r1 : X.cell? ⟨B9, 1, none⟩ = some (.slice (some ad2) nn cn) := (blk_cell hwb.ref 1).trans rfl
        have r2 : X.cell? ⟨B9, 2, none⟩ = some (.slice (some ad) no co) := (blk_cell hwb.ref 2).trans rfl
        have b0 : X.cell? ⟨Bx, 0, none⟩ = some (.string ks) := by simp [World.cell?, hbx]
        have b1 : X.cell? ⟨Bx, 1, none⟩ = some (.int .u64 kn) := by simp [World.cell?, hbx]
        have b2 : X.cell? ⟨Bx, 2, none⟩ = some (.int .i64 kd) := by simp [World.cell?, hbx]
        have km := Boxed.cell (show Boxed X w.heap.size 22 (.slice A1 n1 c1) from blk_below HX0.out hwb.below)
        have HFIN := Aside0.mk (fun (Y : World) (T' : SL Int) (q1 : KeepsFrom W5.heap.size X Y) (q2 : X.heap.size ≤ Y.heap.size) (q3 : Boxed Y Bi 3 (.int .i64 (pre.length : Int))) (q4 : WB W0 Y g B7 B9 (some ad2) nn cn (some ad) no co S T') (q5 : Ext S T') (q6 : AllAt Y n0 g v (ordI S)) => wI_next (z, ks, kn, kd) HWi.out HAo2.out HVO2.out HNE.out.1 HNE.out.2 q1 q2 q3 q4 q5 q6)
        have hz1 : 1 ≤ (z : Int) := by omega
        have hz2 : (z : Int) ≤ 1048576 := by omega
        have hz3 : (z : Int) - 1 < (nn : Int) := by omega
        have hz4 : z - 1 < nn := by omega
        have p1 : (pre.length : Int) < (no : Int) := by omega
        have p2 : pre.length < no := by omega
        have d1 : decide ((pre.length : Int) ≥ (no : Int)) = false := decide_eq_false (by omega)
        have d1' : decide (no ≤ pre.length) = false := decide_eq_false (by omega)
        have p3 : (pre.length : Int) ≤ 1048576 := by omega
        have HBI := Aside0.mk hbi
        have HWB := Aside0.mk hwb
        have HEX := Aside0.mk hext
        have HAT := Aside0.mk hat
        have HBW := Aside0.mk (show ∀ X, Below W0.heap.size W0 X → Below w.heap.size w X from fun X h => below_step HB0.out h)
        clear hbi hwb hext hat hpre hpl hzm hrd hz hkk hxx hnoo hnno hsl hol hq1 hq2 hbx hX hBx
        generalize pre.length = j at *
        unfold fr160
        gi_wp2
        refine region_quiet_round rfl (by kernel_rfl) (by kernel_rfl) (by kernel_rfl) ?_
        repeat (gi_big_quiet_step (fail))
        refine wpQuietIn_nil ?_
        intro X1 hw'
        obtain ⟨nq, hX1⟩ := hw'
        have hb1 : Below X.heap.size X X1 := by rw [hX1]; exact pw_below_drewN (Below.refl _ _) nq
        have HWB := Aside0.mk (HWB.out.later hb1)
        have HAT := Aside0.mk (HAT.out.below hb1)
        have HBI1 := Aside0.mk (show Boxed X1 Bi 3 (.int .i64 (j : Int)) from blk_below HBI.out hb1)
        have HKF := Aside0.mk (show KeepsFrom W5.heap.size X X1 from KeepsOthers.from (KeepsOthers.of_grownBy (row := none) ⟨hb1.os, hb1.tape, hb1.output, hb1.size, fun k hk _ => hb1.block k hk⟩ (by simp)) _)
        have HSZ := Aside0.mk hb1.size
        have ko := HBI1.out.cell
        have kf := HBI1.out.frozen
        have km := Boxed.cell (show Boxed X1 w.heap.size 22 (.slice A1 n1 c1) from blk_below HX0.out HWB.out.below)
        have y7 := HWB.out.lst.cell
        have d3 : wrap64 ((j : Int) + 1) = (j : Int) + 1 := by unfold wrap64; omega
        clear hX1 hb1 a0 e0 e1 e2 e0' e1' e2' r1 r2 b0 b1 b2 hz1 hz2 hz3 hz4 p1 p2 d1 d1'
        by_cases hjn : j < n1
        · obtain ⟨ad3, xp, hA3, hxp, f0, f1, f2, f3⟩ := at_put (Kd.C_below HR1.out (HBW.out _ HWB.out.below)) j (by rw [HN1.out]; exact hjn)
          subst hA3
          obtain ⟨⟨qs, qn, qd⟩, qh⟩ := xp
          dsimp only at f0 f1 f2 f3
          have g1 : decide ((j : Int) < (n1 : Int)) = true := decide_eq_true (by omega)
          have g2 : decide (j < n1) = true := decide_eq_true hjn
          have g3 : (j : Int) < (n1 : Int) := by omega
          have HIN := Aside0.mk (show ∀ W, SkAt W g W0.heap.size T 1048576 → Calls Try.prog 13 #[.pointer (some ⟨g, 0, none⟩), .agg #[.string qs, .int .u64 qn, .int .i64 qd], .int .i64 (-1), .int .i64 qh] W fun e w' => e = .returned (.int .i64 (insC T 1048576 (qs, qn, qd) qh)) ∧ SkAt w' g W0.heap.size (insS T 1048576 (qs, qn, qd) (-1) qh) 1048576 ∧ Below W0.heap.size W w' ∧ Kept W w' (Turns W g W0.heap.size) from fun W h =>
            sk_insert g W0.heap.size 1048576 T (qs, qn, qd) (-1) qh W h)
          gi_wp2
          refine startR_ (n := 12) (S := fun w' => w'.cell? ⟨B7, 0, none⟩ = some (.pointer (some ⟨g, 0, none⟩)) ∧ w'.cell? ⟨w.heap.size, 0, none⟩ = some (.slice (some ad3) n1 c1) ∧ w'.cell? ⟨Bi, 0, none⟩ = some (.int .i64 (j : Int)) ∧ w'.cell? (ad3.add (j * 4)) = some (.string qs) ∧ w'.cell? ⟨(ad3.add (j * 4)).block, (ad3.add (j * 4)).off + 1, none⟩ = some (.int .u64 qn) ∧ w'.cell? ⟨(ad3.add (j * 4)).block, (ad3.add (j * 4)).off + 2, none⟩ = some (.int .i64 qd) ∧ w'.cell? ⟨(ad3.add (j * 4)).block, (ad3.add (j * 4)).off + 3, none⟩ = some (.int .i64 qh)) (ds := [11]) #[false, false, false, false, false, false, false, false, false, false, false, false] (by kernel_rfl) rfl rfl ⟨y7, km, ko, f0, f1, f2, f3⟩ (fun hHeld => ?_) (by kernel_rfl) (by rintro ⟨_, _, h⟩; exact h)
          refine take_ (i := 0) (N := some 109) (v := ?_) (a' := ?_) #[true, false, false, false, false, false, false, false, false, false, false, false] rfl rfl (by kernel_rfl) (fun _ _ _ h => h) (Or.inl ⟨by rfl, ?_⟩) hHeld ?_ ?_
          rotate_left
          · rintro w' ⟨s0, s1, s2, s3, s4, s5, s6⟩
            go_simp
            with_reducible rfl
          rotate_left
          · simp only [Act.put, List.setIfInBounds_toArray, List.set_cons_zero, List.set_cons_succ, i64_w, i32_w]
            rfl
          refine take_ (i := 1) (N := some 110) (v := ?_) (a' := ?_) #[true, true, false, false, false, false, false, false, false, false, false, false] rfl rfl (by kernel_rfl) (fun _ _ _ h => h) (Or.inl ⟨by rfl, ?_⟩) hHeld ?_ ?_
          rotate_left
          · rintro w' ⟨s0, s1, s2, s3, s4, s5, s6⟩
            go_simp
            with_reducible rfl
          rotate_left
          · simp only [Act.put, List.setIfInBounds_toArray, List.set_cons_zero, List.set_cons_succ, i64_w, i32_w]
            rfl
          refine take_ (i := 2) (N := some 111) (v := ?_) (a' := ?_) #[true, true, true, false, false, false, false, false, false, false, false, false] rfl rfl (by kernel_rfl) (fun _ _ _ h => h) (Or.inl ⟨by rfl, ?_⟩) hHeld ?_ ?_
          rotate_left
          · rintro w' ⟨s0, s1, s2, s3, s4, s5, s6⟩
            go_simp
            with_reducible rfl
          rotate_left
          · simp only [Act.put, List.setIfInBounds_toArray, List.set_cons_zero, List.set_cons_succ, i64_w, i32_w]
            rfl
          refine pure_ (i := 3) (N := some 112) (v := ?_) (a' := ?_) #[true, true, true, true, false, false, false, false, false, false, false, false] rfl rfl (by kernel_rfl) (fun _ _ _ h => h) (Or.inl ⟨by rfl, ?_⟩) ?_ ?_
          rotate_left
          · intro w'
            go_simp
            with_reducible rfl
          rotate_left
          · simp only [Act.put, List.setIfInBounds_toArray, List.set_cons_zero, List.set_cons_succ, i64_w, i32_w]
            rfl
          refine pure_ (i := 4) (N := some 113) (v := ?_) (a' := ?_) #[true, true, true, true, true, false, false, false, false, false, false, false] rfl rfl (by kernel_rfl) (fun _ _ _ h => h) (Or.inl ⟨by rfl, ?_⟩) ?_ ?_
          rotate_left
          · intro w'
            go_simp
            with_reducible rfl
          rotate_left
          · simp only [Act.put, List.setIfInBounds_toArray, List.set_cons_zero, List.set_cons_succ, i64_w, i32_w]
            rfl
          refine take_ (i := 5) (N := some 114) (v := ?_) (a' := ?_) #[true, true, true, true, true, true, false, false, false, false, false, false] rfl rfl (by kernel_rfl) (fun _ _ _ h => h) (Or.inl ⟨by rfl, ?_⟩) hHeld ?_ ?_
          rotate_left
          · rintro w' ⟨s0, s1, s2, s3, s4, s5, s6⟩
            go_simp
            with_reducible rfl
          rotate_left
          · simp only [Act.put, List.setIfInBounds_toArray, List.set_cons_zero, List.set_cons_succ, i64_w, i32_w]
            rfl
          refine take_ (i := 6) (N := some 115) (v := ?_) (a' := ?_) #[true, true, true, true, true, true, true, false, false, false, false, false] rfl rfl (by kernel_rfl) (fun _ _ _ h => h) (Or.inl ⟨by rfl, ?_⟩) hHeld ?_ ?_
          rotate_left
          · rintro w' ⟨s0, s1, s2, s3, s4, s5, s6⟩
            go_simp
            with_reducible rfl
          rotate_left
          · simp only [Act.put, List.setIfInBounds_toArray, List.set_cons_zero, List.set_cons_succ, i64_w, i32_w]
            rfl
          refine take_ (i := 7) (N := some 116) (v := ?_) (a' := ?_) #[true, true, true, true, true, true, true, true, false, false, false, false] rfl rfl (by kernel_rfl) (fun _ _ _ h => h) (Or.inl ⟨by rfl, ?_⟩) hHeld ?_ ?_
          rotate_left
          · rintro w' ⟨s0, s1, s2, s3, s4, s5, s6⟩
            go_simp
            with_reducible rfl
          rotate_left
          · simp only [Act.put, List.setIfInBounds_toArray, List.set_cons_zero, List.set_cons_succ, i64_w, i32_w]
            rfl
          refine pure_ (i := 8) (N := some 117) (v := ?_) (a' := ?_) #[true, true, true, true, true, true, true, true, true, false, false, false] rfl rfl (by kernel_rfl) (fun _ _ _ h => h) (Or.inl ⟨by rfl, ?_⟩) ?_ ?_
          rotate_left
          · intro w'
            go_simp
            with_reducible rfl
          rotate_left
          · simp only [Act.put, List.setIfInBounds_toArray, List.set_cons_zero, List.set_cons_succ, i64_w, i32_w]
            rfl
          refine pure_ (i := 9) (N := some 118) (v := ?_) (a' := ?_) #[true, true, true, true, true, true, true, true, true, true, false, false] rfl rfl (by kernel_rfl) (fun _ _ _ h => h) (Or.inl ⟨by rfl, ?_⟩) ?_ ?_
          rotate_left
          · intro w'
            go_simp
            with_reducible rfl
          rotate_left
          · simp only [Act.put, List.setIfInBounds_toArray, List.set_cons_zero, List.set_cons_succ, i64_w, i32_w]
            rfl
          refine take_ (i := 10) (N := some 119) (v := ?_) (a' := ?_) #[true, true, true, true, true, true, true, true, true, true, true, false] rfl rfl (by kernel_rfl) (fun _ _ _ h => h) (Or.inl ⟨by rfl, ?_⟩) hHeld ?_ ?_
          rotate_left
          · rintro w' ⟨s0, s1, s2, s3, s4, s5, s6⟩
            go_simp
            with_reducible rfl
          rotate_left
          · simp only [Act.put, List.setIfInBounds_toArray, List.set_cons_zero, List.set_cons_succ, i64_w, i32_w]
            rfl
          refine last_ (i := 11) (N := some 120) #[true, true, true, true, true, true, true, true, true, true, true, true] rfl rfl (by kernel_rfl) (by decide) (fun K hK => ?_)
          refine goes_ Try.func13 (by kernel_rfl) rfl #[.pointer (some ⟨g, 0, none⟩), .agg #[.string qs, .int .u64 qn, .int .i64 qd], .int .i64 (-1), .int .i64 qh] (by rfl) rfl rfl (by simp only [List.map_toArray, List.map_cons, List.map_nil]; rfl) ?_
          with_reducible refine (HIN.out _ (HWB.out.sk.below (below_drew1 (Below.refl _ _)))).mono ?_
          rintro e w7 ⟨rfl, hsk, hb, hk⟩
          refine ⟨_, rfl, ?_⟩
          have HWB7 := Aside0.mk (show WB W0 w7 g B7 B9 (some ad2) nn cn (some ad) no co S (insS T 1048576 (qs, qn, qd) (-1) qh) from (HWB.out.later (below_drew1 (Below.refl _ _))).turned hk hb hsk)
          have HAT7 := Aside0.mk ((HAT.out.below (below_drew1 (Below.refl _ _))).turned hk (HWB.out.sk.below (below_drew1 (Below.refl _ _))))
          have HBI7 := Aside0.mk (show Boxed w7 Bi 3 (.int .i64 (j : Int)) from turns_blk hk (HWB.out.sk.below (below_drew1 (Below.refl _ _))) (show X1.drew.heap[Bi]? = _ from HBI1.out) (by decide) (by decide))
          have HKF7 := Aside0.mk (show KeepsFrom W5.heap.size X w7 from (HKF.out.trans ((KeepsOthers.drew X1).from _)).trans (turns_keeps _ hk (HWB.out.sk.below (below_drew1 (Below.refl _ _)))))
          have HSZ7 := Aside0.mk (show X.heap.size ≤ w7.heap.size from Nat.le_trans HSZ.out hk.1)
          have g7 : w7.cell? ⟨Bi, 0, none⟩ = some (.int .i64 (j : Int)) := HBI7.out.cell
          have g8 : w7.frozen? ⟨Bi, 0, none⟩ = false := HBI7.out.frozen
          have HQ7 := Aside0.mk (at_put (Kd.C_below HR1.out (HBW.out _ HWB7.out.below)) j (by rw [HN1.out]; exact hjn))
          clear hsk hb hk
          refine hK.out _ _ ?_
          clear hK K
          refine norm_ (a' := ?_) ?_ ?_
          rotate_left
          · show Act.put _ (some 120) _ = _
            simp only [Act.put, List.setIfInBounds_toArray, List.set_cons_zero, List.set_cons_succ, i64_w, i32_w]
            rfl
          refine done_ (by kernel_rfl) ?_
          clear hHeld f0 f1 f2 f3 y7 km ko kf
          gi_wp2
          exact HFIN.out _ _ HKF7.out HSZ7.out HBI7.out HWB7.out (HEX.out.trans (Ext.ins T 1048576 (qs, qn, qd) (-1) qh)) HAT7.out
        · have g1 : decide ((j : Int) < (n1 : Int)) = false := decide_eq_false (by omega)
          have g2 : decide (j < n1) = false := decide_eq_false hjn
          gi_wp2
          exact HFIN.out _ _ HKF.out HSZ.out HBI1.out HWB.out HEX.out HAT.out
      case done =>
        rintro e X he hE hK
        obtain ⟨hbi, ⟨T, hwb, hext⟩, hat⟩ : wI W0 g B7 B9 An nn cn Ao no co S n0 Bi v (elems S) X := by
          rcases hE with ⟨xs, rfl, h⟩ | ⟨pre, _, h⟩
          · exact h
          · exact h.elim
        refine both_waysW he ?_
        rw [elems_len, HNO.out] at hbi
        have HK0 := Aside0.mk hK
        have ko := hbi.cell
        have kf := hbi.frozen
        have r2 : X.cell? ⟨B9, 2, none⟩ = some (.slice Ao no co) := (blk_cell hwb.ref 2).trans rfl
        have HBI := Aside0.mk hbi
        have HWB := Aside0.mk hwb
        have HEX := Aside0.mk hext
        have HAT := Aside0.mk hat
        have b2 : ((no : Int) != (no : Int)) = false := by simp
        have b2n : (no != no) = false := by simp
        have HEQ : ∀ (u : Value) , (X.setCell ⟨Bi, 0, none⟩ u).heap.size = X.heap.size := fun u => by simp
        have HEZ := Aside0.mk HEQ
        have HNOB := Aside0.mk (show (no : Int) ≤ 1048576 by have h1 := HNO.out; have h2 := HSF.out.1.len; have h3 := HSF.out.2; omega)
        clear hbi hwb hext hat hK hE he HEQ
        go_wp2_with fail
        obtain ⟨X2, hX2⟩ : ∃ X2, X.setCell ⟨Bi, 0, none⟩ (.int .i64 0) = X2 := ⟨_, rfl⟩
        have HBI2 := Aside0.mk (show Boxed X2 Bi 3 (.int .i64 0) by rw [← hX2]; exact Boxed.set _ HBI.out)
        have HWB2 := Aside0.mk (show WB W0 X2 g B7 B9 An nn cn Ao no co S T by rw [← hX2]; exact HWB.out.boxed HBI.out HWi.out HAo2.out _)
        have HAT2 := Aside0.mk (show AllAt X2 n0 g v (ordI S) by rw [← hX2]; exact HAT.out.boxed HNE.out.1 HNE.out.2 HVO2.out _)
        have HK2 := Aside0.mk (show X2.heap[W5.heap.size]? = some (.deferred (some [])) by rw [← hX2]; exact (Below.heap_setCell _ _ _ _ (by rw [HZ5.out]; show Bi + 1 ≠ Bi; omega)).trans HK0.out)
        rw [hX2]
        have HX2S := Aside0.mk (show Bi + 2 ≤ X2.heap.size by have := blk_lt HK2.out; rw [HZ5.out] at this; omega)
        clear hX2 ko kf r2 HBI HWB HAT HK0 HEZ
        refine (wpIn_wide (n := 3)).1 ?_
        refine known_range2 (n := 3) (F := Fence.wide) 4 rfl (by decide) (gf := 45) (lb := #[.pointer (some ⟨n0 + 1, 0, none⟩), .pointer (some ⟨n0, 0, none⟩)]) rfl trivial (enters_of Try.func45 (by kernel_rfl) rfl)
          (all_known n0 g W0.heap.size 1048576 v S HSF.out X2 ⟨HAT2.out, T, HWB2.out.sk, HEX.out⟩) KpL.trans (fun X r r' h => KpL.grown (grownBy_putObj' X _ _) (fun q e => by cases e; exact ⟨_, h, rfl⟩)) (Below.refl _ _) (fun _ => rfl)
          (fun pre X => wI W0 g B7 B9 An nn cn Ao no co S n0 Bi v pre X ∧ X.heap[W5.heap.size]? = some (.deferred (some []))) (fun pre X => (pre.length : Int) = early ∧ wI W0 g B7 B9 An nn cn Ao no co S n0 Bi v pre X ∧ X.heap[W5.heap.size]? = some (.deferred (some []))) ?owni ?ownx ⟨⟨HBI2.out, ⟨T, HWB2.out, HEX.out⟩, HAT2.out⟩, HK2.out⟩
          (walkAx2 (.pointer (some ⟨w.heap.size + 1, 0, none⟩)) (.pointer (some ⟨w.heap.size + 1 + 1, 0, none⟩)) (.pointer (some ⟨B9, 0, none⟩)) (.pointer (some ⟨Bi, 0, none⟩))) ?ax2 ?assign2 ?body2 ?done2
        case owni =>
          rintro pre X Y row ⟨h3, h4⟩ hg hr
          exact ⟨wI_own (B := X2.heap.size) (by have h1 := HX2S.out; have h2 := HWi.out; omega) pre X Y row h3 hg hr, (hg.block _ (Array.getElem?_eq_some_iff.1 h4).1 (fun e => by have h1 := (hr _ e.symm).1; have h2 := blk_lt HK2.out; omega)).trans h4⟩
        case ownx =>
          rintro pre X Y row ⟨h1, h3, h4⟩ hg hr
          exact ⟨h1, wI_own (B := X2.heap.size) (by have h1 := HX2S.out; have h2 := HWi.out; omega) pre X Y row h3 hg hr, (hg.block _ (Array.getElem?_eq_some_iff.1 h4).1 (fun e => by have h1 := (hr _ e.symm).1; have h2 := blk_lt HK2.out; omega)).trans h4⟩
        case ax2 => exact fun _ _ _ _ _ _ h _ _ => h
        case assign2 =>
          rintro pre x X K hI hK
          simp only [encE]
          gi_wp2
          exact hK _ _ (KeepsFrom.refl _ _) (KpL.refl _ _ _ _ _ _ _) hI (walkAx2_of rfl)
        case body2 =>
          rintro pre x a' X hX ⟨⟨hbi, ⟨T2, hwb, hext⟩, hat⟩, hdf⟩ ⟨u, p4, p7, x15, x16, rfl⟩ hpre
          obtain ⟨hpl, hx⟩ := elems_get hpre
          have hrd := ordR_at hpl
          obtain ⟨z, hz⟩ : ∃ z, S.order[pre.length] = z := ⟨_, rfl⟩
          rw [hz] at hx hrd
          subst hx
          have hnoo := HNO.out
          have hsl := HNOB.out
          have hq1 := ordR_len S
          obtain ⟨ad, hA, a0⟩ := Kd.at_int (Kd.R_reads' hwb.ro).2.2 (pre.length : Int) (by omega) (by omega)
          subst hA
          rw [hrd, Int.toNat_natCast] at a0
          have ko := hbi.cell
          have kf := hbi.frozen
          have r2 : X.cell? ⟨B9, 2, none⟩ = some (.slice (some ad) no co) := (blk_cell hwb.ref 2).trans rfl
          have ke := Boxed.cell (show Boxed X (w.heap.size + 1) 3 (.int .i64 early) from blk_below HX1.out hwb.below)
          have hne : w.heap.size + 1 ≠ Bi := by have h1 := HWi.out; have h2 := HZ0.out; omega
          have HFIN := Aside0.mk (wI_next (z, S.key z) (N := X2.heap.size) HWi.out HAo2.out HVO2.out HNE.out.1 HNE.out.2 (KeepsFrom.refl X2.heap.size X) (Nat.le_refl _) hbi hwb hext hat)
          have HDF := Aside0.mk (show (X.setCell ⟨Bi, 0, none⟩ (.int .i64 ((pre.length : Int) + 1))).heap[W5.heap.size]? = some (.deferred (some [])) from (Below.heap_setCell _ _ _ _ (by rw [HZ5.out]; show Bi + 1 ≠ Bi; omega)).trans hdf)
          have p1 : (pre.length : Int) < (no : Int) := by omega
          have p2 : pre.length < no := by omega
          have d1 : decide ((pre.length : Int) ≥ (no : Int)) = false := decide_eq_false (by omega)
          have d1' : decide (no ≤ pre.length) = false := decide_eq_false (by omega)
          have p3 : (pre.length : Int) ≤ 1048576 := by omega
          have d3 : wrap64 ((pre.length : Int) + 1) = (pre.length : Int) + 1 := by unfold wrap64; omega
          have HLX := Aside0.mk (show (((pre ++ [(z, S.key z)]).length : Nat) : Int) = (pre.length : Int) + 1 by rw [List.length_append]; rfl)
          clear hbi hwb hext hat hdf hpre hpl hrd hz hnoo hsl hq1 hX
          generalize pre.length = j at *
          unfold fr160
          by_cases hbr : (j : Int) + 1 = early
          · have q1 : ((j : Int) + 1 == early) = true := by simpa using hbr
            have HBR := Aside0.mk hbr
            clear hbr
            gi_wp2
            exact ⟨HFIN.out.1, rfl, HLX.out.trans HBR.out, HFIN.out.2.2, HDF.out⟩
          · have q1 : ((j : Int) + 1 == early) = false := by simpa using hbr
            clear hbr
            gi_wp2
            exact ⟨HFIN.out.1, HFIN.out.2.1, HFIN.out.2.2, HDF.out⟩
        case done2 =>
          rintro e X he hE hK
          obtain ⟨cnt, hbi, ⟨T2, hwb, hext⟩, hdf, hcn⟩ : ∃ cnt : Nat, Boxed X Bi 3 (.int .i64 (cnt : Int)) ∧ (∃ T, WB W0 X g B7 B9 An nn cn Ao no co S T ∧ Ext S T) ∧ X.heap[W5.heap.size]? = some (.deferred (some [])) ∧ ((cnt : Int) = early ∨ cnt = no) := by
            rcases hE with ⟨xs, rfl, ⟨h1, h2, h3⟩, h4⟩ | ⟨pre, hp, h0, ⟨h1, h2, h3⟩, h4⟩
            · exact ⟨_, h1, h2, h4, .inr (by rw [elems_len]; exact HNO.out)⟩
            · exact ⟨_, h1, h2, h4, .inl h0⟩
          have HDF := Aside0.mk hdf
          refine both_waysW he ?_
          have ko := hbi.cell
          have r2 : X.cell? ⟨B9, 2, none⟩ = some (.slice Ao no co) := (blk_cell hwb.ref 2).trans rfl
          have ke := Boxed.cell (show Boxed X (w.heap.size + 1) 3 (.int .i64 early) from blk_below HX1.out hwb.below)
          have ht : Boxed X (w.heap.size + 2) 4 (.bool false) := blk_below HX2.out hwb.below
          have kt := ht.cell
          have ktf := ht.frozen
          have HT := Aside0.mk ht
          have HBL := Aside0.mk (below_step HB0.out hwb.below)
          have HK1 := Aside0.mk hK
          clear hbi hwb hext hE he ht hK
          by_cases hce : (cnt : Int) = early
          · have q2 : ((cnt : Int) == early) = true := beq_iff_eq.2 hce
            clear hce hcn
            go_wp2
            have hz0 := HZ0.out
            have hwi := HWi.out
            have hz5 := HZ5.out
            have hx2 := HX2S.out
            have hk25 := blk_lt HK2.out
            have hk1 : (X.setCell ⟨w.heap.size + 1 + 1, 0, none⟩ (.bool true)).heap[X2.heap.size]? = some (.deferred (some [])) := (Below.heap_setCell _ _ _ _ (by show X2.heap.size ≠ w.heap.size + 1 + 1; omega)).trans HK1.out
            have hk0 : (X.setCell ⟨w.heap.size + 1 + 1, 0, none⟩ (.bool true)).heap[W5.heap.size]? = some (.deferred (some [])) := (Below.heap_setCell _ _ _ _ (by show W5.heap.size ≠ w.heap.size + 1 + 1; omega)).trans HDF.out
            have hb8 := below_set (j := 0) (v := .bool true) HBL.out (show w.heap.size ≤ w.heap.size + 1 + 1 by omega)
            have ht8 := Boxed.set (.bool true) HT.out
            refine ⟨by simp, .inl ⟨_, _, rfl, run_takeDeferred hk1, ?_⟩⟩
            have hk0' := (World.putObj_heap_other (o := .deferred none) (show W5.heap.size ≠ X2.heap.size by omega)).trans hk0
            refine ⟨by simp, .inl ⟨_, _, rfl, run_takeDeferred hk0', ?_⟩⟩
            have hb9 := hb8.grown (grownBy_putObj' _ X2.heap.size (.deferred none)) hb8.size (fun k e => by cases e; omega)
            have hb10 := hb9.grown (grownBy_putObj' _ W5.heap.size (.deferred none)) hb9.size (fun k e => by cases e; omega)
            exact ⟨_, results_cW rfl _ _ (w.heap.size + 1 + 1) (.bool true) rfl (Boxed.cell ((Boxed.kept (Boxed.kept ht8 (grownBy_putObj' _ _ _) (by simp; omega)) (grownBy_putObj' _ _ _) (by simp; omega)))) Try.underlying4, rfl, hb10⟩
          · obtain rfl : cnt = no := hcn.resolve_left hce
            have q2 : ((cnt : Int) == early) = false := by simpa using hce
            have q3 : ((cnt : Int) == (cnt : Int)) = true := by simp
            clear hce hcn
            go_wp2
            have hz0 := HZ0.out
            have hwi := HWi.out
            have hz5 := HZ5.out
            have hx2 := HX2S.out
            have hk25 := blk_lt HK2.out
            have hk1 : (X.setCell ⟨w.heap.size + 1 + 1, 0, none⟩ (.bool true)).heap[X2.heap.size]? = some (.deferred (some [])) := (Below.heap_setCell _ _ _ _ (by show X2.heap.size ≠ w.heap.size + 1 + 1; omega)).trans HK1.out
            have hk0 : (X.setCell ⟨w.heap.size + 1 + 1, 0, none⟩ (.bool true)).heap[W5.heap.size]? = some (.deferred (some [])) := (Below.heap_setCell _ _ _ _ (by show W5.heap.size ≠ w.heap.size + 1 + 1; omega)).trans HDF.out
            have hb8 := below_set (j := 0) (v := .bool true) HBL.out (show w.heap.size ≤ w.heap.size + 1 + 1 by omega)
            have ht8 := Boxed.set (.bool true) HT.out
            refine ⟨by simp, .inl ⟨_, _, rfl, run_takeDeferred hk1, ?_⟩⟩
            have hk0' := (World.putObj_heap_other (o := .deferred none) (show W5.heap.size ≠ X2.heap.size by omega)).trans hk0
            refine ⟨by simp, .inl ⟨_, _, rfl, run_takeDeferred hk0', ?_⟩⟩
            have hb9 := hb8.grown (grownBy_putObj' _ X2.heap.size (.deferred none)) hb8.size (fun k e => by cases e; omega)
            have hb10 := hb9.grown (grownBy_putObj' _ W5.heap.size (.deferred none)) hb9.size (fun k e => by cases e; omega)
            exact ⟨_, results_cW rfl _ _ (w.heap.size + 1 + 1) (.bool true) rfl (Boxed.cell ((Boxed.kept (Boxed.kept ht8 (grownBy_putObj' _ _ _) (by simp; omega)) (grownBy_putObj' _ _ _) (by simp; omega)))) Try.underlying4, rfl, hb10⟩
theorem SkipWalks_upto (w : World) (A0 : Option Addr) (c0 : Nat) (l0 : List (S37 × Int)) (hc0 : l0.length ≤ c0) (hr0 : Kd.C (Kd.pair k37 (Kd.int .i64)) w A0 l0.length l0) (hg0 : ∀ x ∈ l0, (x.1.f0.size ≤ maxLen ∧ (Lit.int .u64 x.1.f1).wf = true ∧ (Lit.int .i64 x.1.f2).wf = true) ∧ (Lit.int .i64 x.2).wf = true)
    (A1 : Option Addr) (c1 : Nat) (l1 : List (S37 × Int)) (hc1 : l1.length ≤ c1) (hr1 : Kd.C (Kd.pair k37 (Kd.int .i64)) w A1 l1.length l1) (hg1 : ∀ x ∈ l1, (x.1.f0.size ≤ maxLen ∧ (Lit.int .u64 x.1.f1).wf = true ∧ (Lit.int .i64 x.1.f2).wf = true) ∧ (Lit.int .i64 x.2).wf = true)
    (a2 : Int) (hg2 : (Lit.int .i64 a2).wf = true) (hbulk : (sumBulk (fun x : S37 × Int => (x.1.f0.size + 1 + 1 + 1 + 1) + 1 + 1) l0 + 1) + (sumBulk (fun x : S37 × Int => (x.1.f0.size + 1 + 1 + 1 + 1) + 1 + 1) l1 + 1) + 1 ≤ 1048576) :
    Calls Try.prog 3 #[.slice A0 l0.length c0, .slice A1 l1.length c1, .int .i64 a2] w fun e w' => e = .returned (.bool true) ∧ Below w.heap.size w w' := by
  have hlen := sumBulk_len (fun x : S37 × Int => (x.1.f0.size + 1 + 1 + 1 + 1) + 1 + 1) (fun _ => by omega) l0
  have hlen1 := sumBulk_len (fun x : S37 × Int => (x.1.f0.size + 1 + 1 + 1 + 1) + 1 + 1) (fun _ => by omega) l1
  exact walks_calls A0 c0 l0 A1 c1 l1 a2 w hr0 hc0 (by omega) hr1 hc1 (by omega)

end Go.Proofs.Ytehfcafmdnfamaa.G
