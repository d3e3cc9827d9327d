/- Contracts of functions and plain laws, several texts of the session put together by its program. -/
import Derived.Test.YtehfcafmdnfamaaProg
import Derived.Below
import Derived.Deep.Draws
import Derived.Deep.AppendLies
import Derived.Maps.AppendAt
import Derived.OwnWalk
import Derived.Laws.BytesArg
import Derived.Laws.MakeOwn
import Derived.Laws.OwnMore
import Derived.Deep.OwnRows
import Derived.Tactics
import Derived.Lib.ConvBytes
import Derived.Laws.Slices
import Derived.WalkKit
import Derived.KernelRfl
import Derived.RowKit3
import Derived.Deep.LoopGhost
import Derived.Deep.QuietTactic
import Derived.BigQuiet
import Derived.WideLaws
import Derived.Deep.DeepCutAuto
import Derived.Deep.CutBlock
import Derived.Deep.RegionHeld3
import Derived.Laws.Rows
import Derived.Lib.AppendStr
import Derived.ArgAppend
import Derived.Laws.IdiomCopy
import Derived.OrdersHeld
import Derived.Laws.BitsLemmas
import Derived.RowKit
import Derived.Test.YtehfcafmdnfamaaWWords
import Derived.Test.YtehfcafmdnfamaaWLast
import Derived.Test.YtehfcafmdnfamaaWTab
import Derived.Test.YtehfcafmdnfamaaWFour
import Derived.Test.YtehfcafmdnfamaaWQPut
import Derived.Test.YtehfcafmdnfamaaWApart
import Derived.Test.YtehfcafmdnfamaaWArr
import Derived.Test.YtehfcafmdnfamaaWZeros
import Derived.Test.YtehfcafmdnfamaaWFoot
import Derived.Test.YtehfcafmdnfamaaWKept
import Derived.Test.YtehfcafmdnfamaaWShare
import Derived.Test.YtehfcafmdnfamaaWN
import Derived.Test.YtehfcafmdnfamaaWFootNe
import Derived.Test.YtehfcafmdnfamaaWAt
import Derived.Test.YtehfcafmdnfamaaWEqStruct
import Derived.Test.YtehfcafmdnfamaaWRepsOne
import Derived.Test.YtehfcafmdnfamaaWInv
import Derived.Test.YtehfcafmdnfamaaWInvWords
import Derived.Test.YtehfcafmdnfamaaWGuard
import Derived.Test.YtehfcafmdnfamaaWNEv
import Derived.Test.YtehfcafmdnfamaaWMore
import Derived.Test.YtehfcafmdnfamaaQ2
import Derived.BigRegionIn
import Derived.Test.YtehfcafmdnfamaaQ3
import Derived.IntWalk
import Derived.Test.YtehfcafmdnfamaaQ0

/- Contracts typed by hand: a skiplist: gone, a walk through all nodes -/
namespace Go.Proofs.Ytehfcafmdnfamaa.G
open Go.RowKit Go.Proofs.YtehfcafmdnfamaaW.PrintWords Go.Proofs.YtehfcafmdnfamaaW.PrintLast Go.Proofs.YtehfcafmdnfamaaW.PrintMore
attribute [local go_sem] max2_int min2_int max_two min_two max_three min_three max_four min_four
set_option linter.unusedVariables false
set_option linter.unusedSimpArgs false

/-! a skiplist: gone, a walk through all nodes -/
open Go.Shelf
attribute [local go_sem] Oper.semAt_some
/-- what a round that goes on keeps: all blocks below n₀, but for some -/
def KpS (n₀ : Nat) (S : Nat → Prop) (A B : World) : Prop := A.heap.size ≤ B.heap.size ∧ ∀ k, k < n₀ → ¬ S k → B.heap[k]? = A.heap[k]?
theorem KpS.refl (n₀ : Nat) (S : Nat → Prop) (A : World) : KpS n₀ S A A := ⟨Nat.le_refl _, fun _ _ _ => rfl⟩
theorem KpS.trans {n₀ : Nat} {S : Nat → Prop} {A B C : World} (h : KpS n₀ S A B) (k : KpS n₀ S B C) : KpS n₀ S A C := ⟨Nat.le_trans h.1 k.1, fun i hi hs => (k.2 i hi hs).trans (h.2 i hi hs)⟩
theorem KpS.below {n₀ : Nat} {S : Nat → Prop} {A B C : World} (h : KpS n₀ S A B) (hn : n₀ ≤ B.heap.size) (k : Below B.heap.size B C) : KpS n₀ S A C := h.trans ⟨k.size, fun i hi _ => k.block i (by omega)⟩
theorem kpS_putObj (n₀ : Nat) (S : Nat → Prop) (W : World) (l : Nat) (o' : Obj) (h : n₀ ≤ l) : KpS n₀ S W (W.putObj l o') :=
  ⟨(grownBy_putObj' W l o').size, fun k hk _ => World.putObj_heap_other (by omega)⟩
theorem cells_own (B : Nat) (cs : Array Value) (t : TypeId) : ∀ (X Y : World) (row : Option Nat), X.heap[B]? = some (.cells cs t (0, 0)) → X.grownBy Y row → (∀ r, row = some r → ∃ o : Obj, X.heap[r]? = some o ∧ o.isCells = false) → Y.heap[B]? = some (.cells cs t (0, 0)) := fun X Y row h hg hrow =>
  (hg.block B (blk_lt h) (fun e' => by
    obtain ⟨o, ho, hc⟩ := hrow B e'.symm
    rw [h] at ho; cases ho; cases hc)).trans h
theorem row_own {n₀ : Nat} {e : TypeId} {size k : Nat} {v : Value} {xs : List Value} : ∀ (X Y : World) (row : Option Nat), X.ownsRow n₀ e size v k xs → X.grownBy Y row → (∀ r, row = some r → ∃ o : Obj, X.heap[r]? = some o ∧ o.isCells = false) → Y.ownsRow n₀ e size v k xs := by
  intro X Y row hr hg hrow
  refine hr.kept hg ?_
  rcases hr.2 with ⟨rfl, _⟩ | ⟨g, cap, cur, rfl, _, hgb, _⟩
  · exact .inl rfl
  · refine .inr fun e' => ?_
    obtain ⟨o, ho, hc⟩ := hrow g (by simpa [Value.ownBlock] using e'.symm)
    rw [hgb] at ho; cases ho; cases hc
theorem cells3_new (W : World) (x y z : Value) (t : TypeId) : ∀ (j : Nat) (u : Value), [x, y, z][j]? = some u → (W.alloc (.cells #[x, y, z] t)).cell? ((⟨W.heap.size, 0, none⟩ : Addr).add j) = some u := by
  intro j u h
  have e := World.alloc_heap_new W (.cells #[x, y, z] t)
  revert e
  generalize W.alloc (.cells #[x, y, z] t) = X
  intro e
  rcases j with _ | _ | _ | j
  · simp at h; subst h; simp [World.cell?, Addr.add, e]
  · simp at h; subst h; simp [World.cell?, Addr.add, e]
  · simp at h; subst h; simp [World.cell?, Addr.add, e]
  · simp at h
theorem cells1_new (W : World) (x : Value) (t : TypeId) : ∀ (j : Nat) (u : Value), [x][j]? = some u → (W.alloc (.cells #[x] t)).cell? ((⟨W.heap.size, 0, none⟩ : Addr).add j) = some u := by
  intro j u h
  have e := World.alloc_heap_new W (.cells #[x] t)
  revert e
  generalize W.alloc (.cells #[x] t) = X
  intro e
  rcases j with _ | j
  · simp at h; subst h; simp [World.cell?, Addr.add, e]
  · simp at h
theorem own_apart {w : World} {n n' e e' s s' k k' : Nat} {v v' : Value} {xs xs' : List Value} (h : w.ownsRow n e s v k xs) (h' : w.ownsRow n' e' s' v' k' xs') (hne : e ≠ e') : v.ownBlock = none ∨ v.ownBlock ≠ v'.ownBlock := by
  rcases h.2 with ⟨rfl, _⟩ | ⟨g, cap, cur, rfl, _, hgb, _⟩
  · exact .inl rfl
  · right
    rcases h'.2 with ⟨rfl, _⟩ | ⟨g', cap', cur', rfl, _, hgb', _⟩
    · simp [Value.ownBlock]
    · intro e
      obtain rfl : g = g' := by simpa [Value.ownBlock] using e
      rw [hgb] at hgb'
      injection hgb' with hgb'
      injection hgb' with _ h2 _
      exact hne h2
theorem own_off {w : World} {n e s k : Nat} {v : Value} {xs : List Value} (h : w.ownsRow n e s v k xs) : ∀ j, v.ownBlock = some j → n ≤ j := by
  intro j ej
  rcases h.2 with ⟨rfl, _⟩ | ⟨g', cap, cur, rfl, hb', _, _⟩
  · simp [Value.ownBlock] at ej
  · obtain rfl : g' = j := by simpa [Value.ownBlock] using ej
    exact hb'
theorem own_cells {w : World} {n e s k : Nat} {v : Value} {xs : List Value} (h : w.ownsRow n e s v k xs) : ∀ (j : Nat) (o : Obj), v.ownBlock = some j → w.heap[j]? = some o → o.isCells = true := by
  intro j o ej hj
  rcases h.2 with ⟨rfl, _⟩ | ⟨g2, cap, cur, rfl, _, hgb, _⟩
  · simp [Value.ownBlock] at ej
  · obtain rfl : g2 = j := by simpa [Value.ownBlock] using ej
    rw [hgb] at hj; cases hj; rfl
theorem SkAt.heap {w w1 : World} {g base most : Nat} {S : SL Int} (h : SkAt w g base S most) (hk : ∀ k, k < w.heap.size → w1.heap[k]? = w.heap[k]?) : SkAt w1 g base S most := by
  obtain ⟨b, c, ns, h1, h2, h3⟩ := h
  refine ⟨b, c, ns, (hk g (blk_lt h1)).trans h1, ndR_move h2 fun q hq => hk q (Kd.R_lt h2 q hq), h3⟩
theorem all_stops (n₀ n g base most : Nat) (v : Value) (S : SL Int) (hS : S.Fine ∧ S.nodes.length ≤ 1048576) (P : Nat → Prop) (w : World) (hn : n₀ ≤ w.heap.size)
    (hread : ∀ W', KpS n₀ P w W' → ReadAt W' n g base most v S) :
    SeqStopsK Fence.wide 2 Try.prog 45 #[.pointer (some ⟨n + 1, 0, none⟩), .pointer (some ⟨n, 0, none⟩)] encE (KpS n₀ P) (fun ys => ys = elems S) (fun pre => pre <+: elems S) (elems S).length w := fun l J Jx W hW hJ _ hY h0 =>
  all1_in l n g base most v S hS (KpS n₀ P) KpS.trans J Jx W (KpS.refl _ _ _) (fun W' hK => hread W' (((KpS.refl n₀ P w).below hn hW).trans hK)) hY h0
def s37 (k : IK) : S37 := ⟨k.1, k.2.1, k.2.2⟩
def kcells (x : Nat × IK) : List Value := [.string x.2.1, .int .u64 x.2.2.1, .int .i64 x.2.2.2]
def icells (x : Nat × IK) : Value := .int .i64 (x.1 : Int)
theorem R_of_keys {w : World} {base : Nat} {v : Value} {l : List (Nat × IK)} (h : w.ownsRow base 37 3 v l.length (l.flatMap kcells)) : Kd.R k37 37 w base (fun _ => True) v (l.map fun x => s37 x.2) := by
  refine ⟨fun _ _ => trivial, l.flatMap kcells, by rw [List.length_map]; exact h, ?_⟩
  clear h
  induction l with
  | nil => exact Reps.none _ _
  | cons x r ih => exact Reps.c3 (k37_mkM _ _ _ (s37 x.2)) ih
theorem R_of_ints {w : World} {base : Nat} {v : Value} {l : List (Nat × IK)} (h : w.ownsRow base 3 1 v l.length (l.map icells)) : Kd.R (Kd.int .i64) 3 w base (fun _ => True) v (l.map fun x => (x.1 : Int)) := by
  refine Kd.R_of_own ?_ (fun _ _ => trivial)
  rw [List.length_map]
  have e : encs (Value.int .i64) (l.map fun x => (x.1 : Int)) = l.map icells := by simp [encs, icells]
  rw [e]; exact h
/-- what holds of the two variables that the rounds write -/
def GonI (w : World) (n₀ : Nat) (pre : List (Nat × IK)) (W : World) : Prop :=
  (∃ v, Boxed W (w.heap.size + 1) 28 v ∧ W.ownsRow n₀ 3 1 v pre.length (pre.map icells)) ∧ (∃ v, Boxed W (w.heap.size + 2) 60 v ∧ W.ownsRow n₀ 37 3 v pre.length (pre.flatMap kcells)) ∧ Boxed W w.heap.size 3 (.int .i64 (-1)) ∧ Below w.heap.size w W ∧ n₀ ≤ W.heap.size
theorem gonI_own (w : World) (n₀ B : Nat) (hB : w.heap.size ≤ B) : OwnFrom B (GonI w n₀) := by
  rintro pre X Y row ⟨⟨v, h1, h2⟩, ⟨v', h1', h2'⟩, h3, h4, h5⟩ hg hr
  have hr' : ∀ r, row = some r → ∃ o : Obj, X.heap[r]? = some o ∧ o.isCells = false := fun r e => (hr r e).2
  exact ⟨⟨v, cells_own _ _ _ X Y row h1 hg hr', row_own X Y row h2 hg hr'⟩, ⟨v', cells_own _ _ _ X Y row h1' hg hr', row_own X Y row h2' hg hr'⟩, cells_own _ _ _ X Y row h3 hg hr', h4.grown hg h4.size (fun k e => by have := (hr k e).1; omega), Nat.le_trans h5 hg.size⟩
/-- a round's activation -/
def gonAx (g : Nat) (w : World) (F : Value) (n0 : Nat) (x : Nat × IK) (a' : Act) (W : World) : Prop :=
  ∃ Bx, n0 ≤ Bx ∧ W.heap[Bx]? = some (.cells #[.string x.2.1, .int .u64 x.2.2.1, .int .i64 x.2.2.2] 37 (0, 0)) ∧ a' = { tmps := #[.pointer (some ⟨g, 0, none⟩), .int .i64 (-1), undef, .pointer (some ⟨w.heap.size, 0, none⟩), .slice none 0 0, .slice none 0 0, .pointer (some ⟨w.heap.size + 1, 0, none⟩), .pointer (some ⟨w.heap.size + 2, 0, none⟩), F, .int .i64 (x.1 : Int), .pointer (some ⟨Bx, 0, none⟩), .pointer (some ⟨g, 0, none⟩), F, F, .bool false, undef, F, .int .i64 (x.1 : Int), .agg #[.string x.2.1, .int .u64 x.2.2.1, .int .i64 x.2.2.2], undef, undef, undef, undef, undef, undef, undef, undef, undef, undef, undef, undef, undef, undef], defers := [] }
set_option maxHeartbeats 16000000 in
set_option maxRecDepth 100000 in
theorem gone_calls (g base most : Nat) (S : SL Int) (w : World) (h : SkAt w g base S most) : Calls Try.prog 31 #[.pointer (some ⟨g, 0, none⟩), .int .i64 (-1)] w fun e w' => ∃ v1 v2, e = .returned (.tuple #[v1, v2]) ∧ Kd.R (Kd.int .i64) 3 w' w.heap.size (fun _ => True) v1 (ordI S) ∧ Kd.R k37 37 w' w.heap.size (fun _ => True) v2 (S.order.map fun z => s37 (S.key z)) ∧ Below w.heap.size w w' := by
  refine (callsIn_wide (n := 3)).1 ?_
  have HS := Aside0.mk h.fine
  have HSK := Aside0.mk h
  have HB0 := Aside0.mk (below_alloc (below_alloc (below_alloc (Below.refl w.heap.size w) (.cells #[.int .i64 (-1)] 3)) (.cells #[.slice none 0 0] 28)) (.cells #[.slice none 0 0] 60))
  obtain ⟨W0, hW0⟩ : ∃ W0, ((w.alloc (.cells #[.int .i64 (-1)] 3)).alloc (.cells #[.slice none 0 0] 28)).alloc (.cells #[.slice none 0 0] 60) = W0 := ⟨_, rfl⟩
  have hz0 : W0.heap.size = w.heap.size + 3 := by rw [← hW0, World.size_alloc, World.size_alloc, World.size_alloc]
  have hx0 : Boxed W0 w.heap.size 3 (.int .i64 (-1)) := by rw [← hW0]; exact ((Boxed.new w 3 (.int .i64 (-1))).alloc _).alloc _
  have hx1 : Boxed W0 (w.heap.size + 1) 28 (.slice none 0 0) := by
    have := (Boxed.new (w.alloc (.cells #[.int .i64 (-1)] 3)) 28 (.slice none 0 0)).alloc (.cells #[.slice none 0 0] 60)
    rw [World.size_alloc] at this
    rw [← hW0]; exact this
  have hx2 : Boxed W0 (w.heap.size + 2) 60 (.slice none 0 0) := by
    have := Boxed.new ((w.alloc (.cells #[.int .i64 (-1)] 3)).alloc (.cells #[.slice none 0 0] 28)) 60 (.slice none 0 0)
    rw [World.size_alloc, World.size_alloc] at this
    rw [← hW0]; exact this
  rw [hW0] at HB0
  have HX0 := Aside0.mk hx0
  have HX1 := Aside0.mk hx1
  have HX2 := Aside0.mk hx2
  have HW := Aside0.mk hW0
  have HZ := Aside0.mk hz0
  have HAL := Aside0.mk (sk_all g base most S W0 (h.below HB0.out))
  rw [hz0] at HAL
  clear h hx0 hx1 hx2 hW0 hz0
  refine callsIn_of_wp_marks Try.func31 rfl trivial ?_ rfl
  simp only [Try.ntmps31, List.size_toArray, List.length_cons, List.length_nil, Nat.reduceAdd, Nat.reduceSub, Array.replicate_succ, Array.replicate_zero, List.push_toArray, List.append_toArray, List.nil_append, List.cons_append]
  gi_wp2_with fail
  refine ⟨trivial, ?_⟩
  rw [HW.out]
  (with_reducible refine (callsIn_wide.2 HAL.out).mono ?_)
  rintro e w3 ⟨v, rfl, hat, hb⟩
  rw [show w.heap.size + 3 = W0.heap.size from HZ.out.symm] at hb
  have HAT := Aside0.mk hat
  have HB3 := Aside0.mk (below_step HB0.out hb)
  have X0 := HX0.out.kept (row := none) ⟨hb.os, hb.tape, hb.output, hb.size, fun k hk _ => hb.block k hk⟩ (by simp)
  have X1 := HX1.out.kept (row := none) ⟨hb.os, hb.tape, hb.output, hb.size, fun k hk _ => hb.block k hk⟩ (by simp)
  have X2 := HX2.out.kept (row := none) ⟨hb.os, hb.tape, hb.output, hb.size, fun k hk _ => hb.block k hk⟩ (by simp)
  have HX0 := Aside0.mk X0
  have HX1 := Aside0.mk X1
  have HX2 := Aside0.mk X2
  have hs3 : w.heap.size + 3 < w3.heap.size := by have := blk_lt hat.box; omega
  clear hb hat X0 X1 X2 HAL HW
  have hcmp : ∀ (lb : Array Value) (X : World), (binOp .eql 42 (.func (.func 45) #[] lb) .nilFunc).run Try.prog X = .ok (.bool false) X := by
    intro lb X
    first | rfl | (simp [binOp, go_sem]; done) | (unfold binOp; simp [go_sem, Try.underlying42]; done)
  gi_wp2_with fail
  gi_wp2_with fail
  refine wpIn_rangeFunc_ownH (n := 3) (F := Fence.wide) rfl (by decide) (gf := 45) (lb := #[.pointer (some ⟨w.heap.size + 3 + 1, 0, none⟩), .pointer (some ⟨w.heap.size + 3, 0, none⟩)]) rfl trivial (enters_of Try.func45 (by kernel_rfl) rfl)
    (all_stops w3.heap.size (w.heap.size + 3) g base most v S ⟨HS.out.1, HS.out.2.1⟩ (fun k => k = w.heap.size + 1 ∨ k = w.heap.size + 2) w3 (Nat.le_refl _) ?read) KpS.trans ?put (Below.refl _ _) (fun _ => rfl)
    (GonI w w3.heap.size) (fun _ _ _ => False) (gonI_own w _ _ (by omega)) (fun _ _ _ _ _ hs _ _ => hs) ?init (gonAx g w (.func (.func 45) #[] #[.pointer (some ⟨w.heap.size + 3 + 1, 0, none⟩), .pointer (some ⟨w.heap.size + 3, 0, none⟩)]) w3.heap.size) ?ax ?assign ?body ?done ?stop
  case read =>
    intro W' hK
    refine ⟨⟨(hK.2 _ (blk_lt HAT.out.lst) (by omega)).trans HAT.out.lst, (hK.2 _ (blk_lt HAT.out.box) (by omega)).trans HAT.out.box, intR_move HAT.out.row fun q hq => hK.2 q (Kd.R_lt HAT.out.row q hq) (by have := Kd.R_base HAT.out.row q hq; omega)⟩, S, HSK.out.heap (fun k hk => (hK.2 k (by omega) (by omega)).trans (HB3.out.block k hk)), Ext.refl S⟩
  case put =>
    intro W l o o' hl _ _ _
    exact kpS_putObj _ _ W l o' hl
  case init => exact ⟨⟨_, HX1.out, World.ownsRow_nil _ _ _ _⟩, ⟨_, HX2.out, World.ownsRow_nil _ _ _ _⟩, HX0.out, HB3.out, Nat.le_refl _⟩
  case ax =>
    rintro x a' _ X Y row ⟨Bx, h1, h2, h3⟩ hg hr
    exact ⟨Bx, h1, cells_own Bx _ _ X Y row h2 hg (fun r e => (hr r e).2), h3⟩
  case assign =>
    rintro l pre x W K hI hK
    have hws := hI.2.2.2.2
    simp only [encE]
    gi_wp2
    exact hK _ _ ((KeepsOthers.alloc W _).from _) ⟨by rw [World.size_alloc]; omega, fun k hk _ => Below.heap_alloc W _ k (by omega)⟩ ((gonI_own w w3.heap.size w3.heap.size (by omega)).alloc _ hI) ⟨W.heap.size, hws, World.alloc_heap_new W _, rfl⟩
  case body =>
    rintro l pre x a' W hl hr ⟨⟨v6, hv6, hrow6⟩, ⟨v7, hv7, hrow7⟩, hm, hbw, hws⟩ ⟨Bx, hBx, hbx, rfl⟩ hlt
    have hpl : pre.length < 1048576 := by
      have h1 := elems_len S
      have h2 := HS.out.1.len
      have h3 := HS.out.2.1
      omega
    obtain ⟨xz, ⟨ks, kn, kd⟩⟩ := x
    have hbx' : W.heap[Bx]? = some (.cells #[.string ks, .int .u64 kn, .int .i64 kd] 37 (0, 0)) := hbx
    have hoff6 := own_off hrow6
    have hoff7 := own_off hrow7
    have hne6 : some Bx ≠ v6.ownBlock := by
      rcases hrow6.2 with ⟨rfl, _⟩ | ⟨g', cap, cur, rfl, _, hgb, _⟩
      · simp [Value.ownBlock]
      · intro e
        obtain rfl : Bx = g' := by simpa [Value.ownBlock] using e
        rw [hbx'] at hgb
        injection hgb with hgb
        injection hgb with _ h2 _
        exact absurd h2 (by decide)
    have hcl6 := own_cells (hrow6.alloc (.cells #[.int .i64 (xz : Int)] 3))
    have hinfo : (Try.prog.info? 3).map (fun i => (i.zero, i.size, i.bytes)) = some (some (.int .i64 0), 1, 8) := by kernel_rfl
    obtain ⟨i0, hi, hz0, hz1, hz2⟩ := info_parts hinfo
    have hinfo2 : (Try.prog.info? 37).map (fun i => (i.zero, i.size, i.bytes)) = some (some (.agg #[.string ⟨#[]⟩, .int .u64 0, .int .i64 0]), 3, 32) := by kernel_rfl
    obtain ⟨j0, hj, hy0, hy1, hy2⟩ := info_parts hinfo2
    have hc6 := hv6.cell
    have c9 : (((pre.length + 1 : Nat) : Int) == -1) = false := by simp; omega
    have c9' : (((pre.length : Int) + 1) == -1) = false := by simp; omega
    clear hlt hbx hinfo hinfo2 hcmp
    gi_wp2_with (first | (gi_at_builtin; refine wpListIn_append_own _ rfl _ _ 28 rfl w3.heap.size 3 i0 _ 1 8 Try.underlying28 hi hz0 hz1 hz2 rfl (by decide) _ _ _ rfl (hrow6.alloc _) ⟨W.heap.size, 0, none⟩ 1 1 [.int .i64 (xz : Int)] rfl rfl (cells1_new _ _ _) (by simp [Value.oneCell']) (by unfold maxLen; omega) (by omega) (by rw [World.size_alloc]; omega) ?_; intro v6' W1 hown6 hgrow _; obtain ⟨g6, cap6, rfl⟩ := ownsRow_succ hown6; have hv61 := (hv6.alloc _).kept hgrow (hv6.not_row (by decide) hrow6); have hv71 := (hv7.alloc _).kept hgrow (hv7.not_row (by decide) hrow6); have hm1 := (hm.alloc _).kept hgrow (fun e => by have := hoff6 _ e.symm; omega); have hr71 := (hrow7.alloc _).kept hgrow (own_apart hrow7 hrow6 (by decide)); have hb1 : W1.heap[Bx]? = _ := (hgrow.block Bx (by rw [World.size_alloc]; exact Nat.lt_succ_of_lt (blk_lt hbx')) hne6).trans ((Below.heap_alloc _ _ _ (blk_lt hbx')).trans hbx'); have hw1 : W.heap.size + 1 ≤ W1.heap.size := (by have := hgrow.size; rwa [World.size_alloc] at this); have hk1 := hv61.cell; have hk2 := hv61.frozen; have hv62 := hv61.set (.slice (some ⟨g6, 0, none⟩) (pre.length + 1) cap6); have hv72 := hv71.other (show w.heap.size + 2 ≠ w.heap.size + 1 by omega) (.slice (some ⟨g6, 0, none⟩) (pre.length + 1) cap6); have hm2 := hm1.other (show w.heap.size ≠ w.heap.size + 1 by omega) (.slice (some ⟨g6, 0, none⟩) (pre.length + 1) cap6); have hr72 := hr71.kept (grownBy_setCell' W1 (w.heap.size + 1) (.slice (some ⟨g6, 0, none⟩) (pre.length + 1) cap6)) (.inr (fun e => by have := hoff7 _ e; omega)); have hr62 := hown6.kept (grownBy_setCell' W1 (w.heap.size + 1) (.slice (some ⟨g6, 0, none⟩) (pre.length + 1) cap6)) (.inr (fun e => by have := own_off hown6 _ e; omega)); have hb2 := (Below.heap_setCell W1 ⟨w.heap.size + 1, 0, none⟩ (.slice (some ⟨g6, 0, none⟩) (pre.length + 1) cap6) Bx (by show Bx ≠ w.heap.size + 1; omega)).trans hb1; have hsz2 : (W1.setCell ⟨w.heap.size + 1, 0, none⟩ (.slice (some ⟨g6, 0, none⟩) (pre.length + 1) cap6)).heap.size = W1.heap.size := (by simp); have hk3 := hv72.cell; have hk3b := hv71.cell; have hk3c := hm1.cell; have f0 : W1.cell? ⟨Bx, 0, none⟩ = some (.string ks) := (by simp [World.cell?, hb1]); have f1 : W1.cell? ⟨Bx, 1, none⟩ = some (.int .u64 kn) := (by simp [World.cell?, hb1]); have f2 : W1.cell? ⟨Bx, 2, none⟩ = some (.int .i64 kd) := (by simp [World.cell?, hb1]); have hBxne : Bx ≠ w.heap.size + 1 := (by omega); have e0 : (W1.setCell ⟨w.heap.size + 1, 0, none⟩ (.slice (some ⟨g6, 0, none⟩) (pre.length + 1) cap6)).cell? ⟨Bx, 0, none⟩ = some (.string ks) := (by simp [World.cell?, hb2]); have e1 : (W1.setCell ⟨w.heap.size + 1, 0, none⟩ (.slice (some ⟨g6, 0, none⟩) (pre.length + 1) cap6)).cell? ⟨Bx, 1, none⟩ = some (.int .u64 kn) := (by simp [World.cell?, hb2]); have e2 : (W1.setCell ⟨w.heap.size + 1, 0, none⟩ (.slice (some ⟨g6, 0, none⟩) (pre.length + 1) cap6)).cell? ⟨Bx, 2, none⟩ = some (.int .i64 kd) := (by simp [World.cell?, hb2]); have hw2 := (KeepsWalks.setCell W1 ⟨w.heap.size + 1, 0, none⟩ (.slice (some ⟨g6, 0, none⟩) (pre.length + 1) cap6)).size) | (gi_at_builtin; refine wpListIn_append_own _ rfl _ _ 60 rfl w3.heap.size 37 j0 _ 3 32 Try.underlying60 hj hy0 hy1 hy2 rfl (by decide) _ _ _ rfl (hr72.alloc _) ⟨W1.heap.size, 0, none⟩ 1 1 [.string ks, .int .u64 kn, .int .i64 kd] rfl rfl (by have := cells3_new (W1.setCell ⟨w.heap.size + 1, 0, none⟩ (.slice (some ⟨g6, 0, none⟩) (pre.length + 1) cap6)) (.string ks) (.int .u64 kn) (.int .i64 kd) 37; rw [hsz2] at this; exact this) (by simp [Value.oneCell']) (by unfold maxLen; omega) (by omega) (by rw [World.size_alloc]; omega) ?_; intro v7' X1 hown7 hgrow2 _; obtain ⟨g7, cap7, rfl⟩ := ownsRow_succ hown7; have hv63 := (hv62.alloc _).kept hgrow2 (hv62.not_row (by decide) hr72); have hv73 := (hv72.alloc _).kept hgrow2 (hv72.not_row (by decide) hr72); have hm3 := (hm2.alloc _).kept hgrow2 (fun e => by have := own_off hr72 _ e.symm; omega); have hr63 := (hr62.alloc _).kept hgrow2 (own_apart hr62 hr72 (by decide)); have hw3 : (W1.setCell ⟨w.heap.size + 1, 0, none⟩ (.slice (some ⟨g6, 0, none⟩) (pre.length + 1) cap6)).heap.size + 1 ≤ X1.heap.size := (by have := hgrow2.size; rwa [World.size_alloc] at this); have hk4 := hv73.cell; have hk5 := hv73.frozen; have hv64 := hv63.other (show w.heap.size + 1 ≠ w.heap.size + 2 by omega) (.slice (some ⟨g7, 0, none⟩) (pre.length + 1) cap7); have hv74 := hv73.set (.slice (some ⟨g7, 0, none⟩) (pre.length + 1) cap7); have hm4 := hm3.other (show w.heap.size ≠ w.heap.size + 2 by omega) (.slice (some ⟨g7, 0, none⟩) (pre.length + 1) cap7); have hr74 := hown7.kept (grownBy_setCell' X1 (w.heap.size + 2) (.slice (some ⟨g7, 0, none⟩) (pre.length + 1) cap7)) (.inr (fun e => by have := own_off hown7 _ e; omega)); have hr64 := hr63.kept (grownBy_setCell' X1 (w.heap.size + 2) (.slice (some ⟨g7, 0, none⟩) (pre.length + 1) cap7)) (.inr (fun e => by have := own_off hr63 _ e; omega)); have hk6 := hv64.cell; have hk7 := hm4.cell; have hk6b := hv63.cell; have hk7b := hm3.cell; have hw4 := (KeepsWalks.setCell X1 ⟨w.heap.size + 2, 0, none⟩ (.slice (some ⟨g7, 0, none⟩) (pre.length + 1) cap7)).size))
    refine ⟨KeepsOthers.from ((((((KeepsOthers.alloc W _).trans (KeepsOthers.of_grownBy hgrow fun j o ej hj => hcl6 j o ej hj)).trans (KeepsOthers.setCell _ _ _)).trans (KeepsOthers.alloc _ _)).trans (KeepsOthers.of_grownBy hgrow2 fun j o ej hj => own_cells (hr72.alloc _) j o ej hj)).trans (KeepsOthers.setCell _ _ _)) _, ⟨by omega, fun k hk hS => ?_⟩, ⟨_, hv64, ?_⟩, ⟨_, hv74, ?_⟩, hm4, ?_, by omega⟩
    · have h1 : k ≠ w.heap.size + 1 := fun e => hS (.inl e)
      have h2 : k ≠ w.heap.size + 2 := fun e => hS (.inr e)
      exact (Below.heap_setCell X1 ⟨w.heap.size + 2, 0, none⟩ _ k h2).trans ((hgrow2.block k (by rw [World.size_alloc]; omega) (fun e => by have := own_off hr72 k e.symm; omega)).trans ((Below.heap_alloc _ _ k (by omega)).trans ((Below.heap_setCell W1 ⟨w.heap.size + 1, 0, none⟩ _ k h1).trans ((hgrow.block k (by rw [World.size_alloc]; omega) (fun e => by have := hoff6 k e.symm; omega)).trans (Below.heap_alloc W _ k (by omega))))))
    · rw [List.length_append, List.map_append]
      exact hr64
    · rw [List.length_append, List.flatMap_append]
      exact hr74
    · exact hbw.trans (((((((Below.refl w.heap.size W).alloc (by omega) _).grown hgrow (by rw [World.size_alloc]; omega) (fun j ej => by have := hoff6 j ej; omega)).setCell (p := ⟨w.heap.size + 1, 0, none⟩) (Nat.le_succ _) _).alloc (by omega) _).grown hgrow2 (by rw [World.size_alloc]; omega) (fun j ej => by have := own_off hr72 j ej; omega)).setCell (p := ⟨w.heap.size + 2, 0, none⟩) (by show w.heap.size ≤ w.heap.size + 2; omega) _)
  case done =>
    rintro D ys X hD rfl ⟨⟨v6, hv6, hrow6⟩, ⟨v7, hv7, hrow7⟩, hm, hbw, hws⟩ hK
    have q1 := hv6.cell
    have q2 := hv7.cell
    have HB := Aside0.mk hbw
    have HKD := Aside0.mk hK
    have HV6 := Aside0.mk hrow6
    have HV7 := Aside0.mk hrow7
    clear hbw hK hrow6 hrow7 hv6 hv7 hm hcmp
    gi_wp2
    refine (wpIn_wide (n := 3)).2 ?_
    go_wp2
    go_quiet (fail)
    all_goals gi_wp2
    have hk2 : (X.drewN nq).heap[D]? = some (.deferred (some [])) := ((pw_below_drewN (Below.refl _ _) nq).block D (blk_lt HKD.out)).trans HKD.out
    refine ⟨by simp, .inl ⟨_, _, rfl, run_takeDeferred hk2, ?_⟩⟩
    have hsz := HB3.out.size
    refine ⟨.tuple #[v6, v7], (by simp [results, Try.results31, go_sem]), v6, v7, rfl, ?_, ?_, ?_⟩
    · have key : ∀ o', Kd.R (Kd.int .i64) 3 ((X.drewN nq).putObj D o') w.heap.size (fun _ => True) v6 (ordI S) := by
        intro o'
        have d := pw_below_drewN (Below.refl X.heap.size X) nq
        have r := row_own X (X.drewN nq) none HV6.out ⟨d.os, d.tape, d.output, d.size, fun k hk _ => d.block k hk⟩ (fun r e => by cases e)
        have r2 := ownsRow_putObj r o' hk2 rfl
        have := R_of_ints (base := w.heap.size) ⟨r2.1, r2.2.imp (fun h => h) (fun ⟨g', cap, cur, e, hb', h⟩ => ⟨g', cap, cur, e, by omega, h⟩)⟩
        rw [show (elems S).map (fun x => (x.1 : Int)) = ordI S by unfold elems ordI; rw [List.map_map]; rfl] at this
        exact this
      exact key _
    · have key : ∀ o', Kd.R k37 37 ((X.drewN nq).putObj D o') w.heap.size (fun _ => True) v7 ((S.order.map fun z => s37 (S.key z))) := by
        intro o'
        have d := pw_below_drewN (Below.refl X.heap.size X) nq
        have r := row_own X (X.drewN nq) none HV7.out ⟨d.os, d.tape, d.output, d.size, fun k hk _ => d.block k hk⟩ (fun r e => by cases e)
        have r2 := ownsRow_putObj r o' hk2 rfl
        have := R_of_keys (base := w.heap.size) ⟨r2.1, r2.2.imp (fun h => h) (fun ⟨g', cap, cur, e, hb', h⟩ => ⟨g', cap, cur, e, by omega, h⟩)⟩
        rw [show (elems S).map (fun x => s37 x.2) = S.order.map (fun z => s37 (S.key z)) by unfold elems; rw [List.map_map]; rfl] at this
        exact this
      exact key _
    · exact (pw_below_drewN HB.out nq).grown (grownBy_putObj' _ D _) (pw_below_drewN HB.out nq).size (fun k e => by cases e; omega)
  case stop =>
    rintro D c pre W _ _ h _
    exact h.elim

end Go.Proofs.Ytehfcafmdnfamaa.G

/- Contracts typed by hand: the law SkipRises -/
namespace Go.Proofs.Ytehfcafmdnfamaa.G
open Go.RowKit Go.Proofs.YtehfcafmdnfamaaW.PrintWords Go.Proofs.YtehfcafmdnfamaaW.PrintLast Go.Proofs.YtehfcafmdnfamaaW.PrintMore
attribute [local go_sem] max2_int min2_int max_two min_two max_three min_three max_four min_four
set_option linter.unusedVariables false
set_option linter.unusedSimpArgs false

/-! the law SkipRises -/
theorem subset_rows {w : World} {A B : Option Addr} {c d n m : Nat} {a b : List Int} (h1 : Kd.C (Kd.int .i64) w A a.length a) (h2 : Kd.C (Kd.int .i64) w B b.length b) (hc : a.length ≤ c) (hd : b.length ≤ d) (ha : a.length ≤ 1099511627776) (hb : b.length ≤ 1099511627776) (hs : List.Sublist a b) (hn : n = a.length) (hm : m = b.length) :
    Calls Try.prog 33 #[.slice A n c, .slice B m d] w fun e w' => e = .returned (.bool true) ∧ Below w.heap.size w w' := by
  subst hn hm
  exact (morainelaw08_subset.calls (2 * b.length + 2) A c a B d b true w h1 hc h2 hd (subset_sub a b ha hb hs)).mono fun e w' ⟨h, hd⟩ => ⟨h, hd.below⟩
/-- two keys that stand one behind the other -/
theorem rise_at {S : SL Int} (hS : S.Fine) {q : Nat} (h : q + 1 < S.order.length) : kl (S.key S.order[q]) (S.key S.order[q + 1]) = true := by
  have := hS.rise
  rw [List.pairwise_iff_getElem] at this
  exact this q (q + 1) (by omega) h (by omega)
set_option maxHeartbeats 32000000 in
set_option maxRecDepth 100000 in
theorem rises_calls (A : Option Addr) (c : Nat) (l : List Put08) (w : World) (hr : Kd.C PutK w A l.length l) (hc : l.length ≤ c) (hlen : l.length ≤ 1048576) :
    Calls Try.prog 7 #[.slice A l.length c] w fun e w' => e = .returned (.bool true) ∧ Below w.heap.size w w' := by
  have HR0 := Aside0.mk hr
  have HC0 := Aside0.mk hc
  have HLE := Aside0.mk hlen
  clear hr hc hlen
  go_enter Try.func7, Try.ntmps7
  go_wp2_with fail
  (with_reducible refine (works_calls _).mono ?_)
  rintro e w2 ⟨rfl, hb⟩
  have HB := Aside0.mk hb
  clear hb
  go_wp2_with fail
  (with_reducible refine (made_calls A c l 0 _ (Kd.C_below HR0.out HB.out) HC0.out HLE.out).mono ?_)
  rintro e w3 ⟨g, tk, rfl, hsk, hrt, hb⟩
  obtain ⟨base, hbase⟩ : ∃ base, w2.heap.size = base := ⟨_, rfl⟩
  rw [hbase] at hsk hrt
  have HSK := Aside0.mk hsk
  have hmd : Made (madeL 0 l).1 (madeL 0 l).2 := madeS_made (hgt 0) (putsOf l) 0 SL.nil [] made_nil
  have HB := Aside0.mk (below_step HB.out hb)
  obtain ⟨At, ct, rfl, hct, _⟩ := Kd.R_reads hrt
  have hlT := hmd.len
  generalize (madeL 0 l).1 = S at HSK hmd hlT
  generalize (madeL 0 l).2 = t at hlT hct hmd hrt
  have HF := Aside0.mk HSK.out.fine
  obtain ⟨n, hn⟩ : ∃ n, t.length = n := ⟨_, rfl⟩
  rw [hn] at hlT hct hrt
  rw [hn]
  have hol : S.order.length = n := by rw [HF.out.1.len, hlT]
  have hnb : n ≤ 1048576 := by rw [hlT]; exact HF.out.2.1
  have HLN := Aside0.mk (fun W (h : SkAt W g base S 1048576) => sk_len g base 1048576 S W h)
  rw [← hlT] at HLN
  have HHT := Aside0.mk (fun W (h : SkAt W g base S 1048576) => sk_height g base 1048576 S W h)
  have HLV := Aside0.mk (fun lv W (h : SkAt W g base S 1048576) => sk_links g base 1048576 S lv W h)
  have HO := Aside0.mk hol
  have HZ := Aside0.mk (show S.height = 0 ↔ n = 0 by rw [height_zero HF.out.1, hlT])
  have hH12 := S.height_le HF.out.1
  obtain ⟨H, hH⟩ : ∃ H, S.height = H := ⟨_, rfl⟩
  rw [hH] at HHT HZ hH12
  have HH := Aside0.mk hH
  clear hsk hrt hb hbase hct hlT hn hmd hol hH
  go_wp2_with fail
  (with_reducible refine (HLN.out _ HSK.out).mono ?_)
  rintro e w4 ⟨rfl, rfl⟩
  go_wp2_with fail
  (with_reducible refine (gone_calls g base 1048576 S _ HSK.out).mono ?_)
  rintro e w5 ⟨v1, v2, rfl, hr1, hr2, hb⟩
  have HSK := Aside0.mk (HSK.out.below hb)
  have HB := Aside0.mk (below_step HB.out hb)
  obtain ⟨A1, c1, rfl, hc1, hC1⟩ := Kd.R_reads hr1
  obtain ⟨A2, c2, rfl, hc2, hC2⟩ := Kd.R_reads hr2
  have hl1 : (ordI S).length = n := by unfold ordI; rw [List.length_map, HO.out]
  have hl2 : (S.order.map fun z => s37 (S.key z)).length = n := by rw [List.length_map, HO.out]
  have HC1 := Aside0.mk hC1
  have HC2 := Aside0.mk hC2
  have HL1 := Aside0.mk hc1
  have HLE1 := Aside0.mk hl1
  have HLE2 := Aside0.mk hl2
  rw [hl1, hl2]
  clear hr1 hr2 hb hc1 hC1 hc2 hC2 hl1 hl2
  go_wp2_with fail
  (with_reducible refine (HLV.out 0 _ HSK.out).mono ?_)
  rintro e wl ⟨v, rfl, hr, hb⟩
  obtain ⟨A3, c3, rfl, hc, hC⟩ := Kd.R_reads hr
  have HC3 := Aside0.mk hC
  have HL3 := Aside0.mk hc
  have HSK := Aside0.mk (HSK.out.below hb)
  have HB := Aside0.mk (below_step HB.out hb)
  clear hr hC hc
  have hlv : lvl S 0 = ordI S := (lvl_nat S 0).trans (lvls_zero HF.out.1)
  have HC3 := Aside0.mk (show Kd.C (Kd.int .i64) wl A3 (ordI S).length (ordI S) by have := HC3.out; rw [hlv] at this; exact this)
  have HL3 := Aside0.mk (show (ordI S).length ≤ c3 by have := HL3.out; rw [hlv] at this; exact this)
  have HC1 := Aside0.mk (Kd.C_below HC1.out hb)
  have HC2 := Aside0.mk (Kd.C_below HC2.out hb)
  rw [hlv, HLE1.out]
  clear hb hlv
  go_wp2_with fail
  (with_reducible refine (ints_rows (l := ordI S) HC1.out HC3.out HL1.out HL3.out (by rw [HLE1.out]; omega) HLE1.out.symm HLE1.out.symm).mono ?_)
  rintro e w6 ⟨rfl, hb⟩
  have HSK := Aside0.mk (HSK.out.below hb)
  have HB := Aside0.mk (below_step HB.out hb)
  have HC2 := Aside0.mk (Kd.C_below HC2.out hb)
  clear hb HC1 HC3 HL1 HL3
  have HK0 := Aside0.mk (Below.refl w6.heap.size w6)
  go_wp2_with fail
  go_loopg [7] (1 + n) (fun kq v7 wr => ∃ (q : Nat), v7 = .int .i64 ((q : Int) + 1) ∧ q ≤ n ∧ n - q < kq ∧ Aside0 (Below w6.heap.size w6 wr))
  case atStart => exact ⟨0, rfl, Nat.zero_le _, by omega, HK0⟩
  case round =>
    clear HK0
    obtain ⟨q, rfl, hqn, hkq, HK⟩ := hrel
    cases gk with
    | zero => omega
    | succ gk1 =>
    by_cases hq : q + 1 < n
    · have b1 : decide ((q : Int) + 1 < (n : Int)) = true := decide_eq_true (by omega)
      have hq1 : q + 1 < S.order.length := by rw [HO.out]; exact hq
      have hq0 : q < S.order.length := by omega
      have hkl := rise_at HF.out.1 hq1
      have hC := Kd.C_below HC2.out HK.out
      obtain ⟨ad, hA, a0, a1, a2⟩ := at_T37 hC (q : Int) (by omega) (by rw [HLE2.out]; omega)
      obtain ⟨ad', hA', d0, d1, d2⟩ := at_T37 hC ((q + 1 : Nat) : Int) (by omega) (by rw [HLE2.out]; omega)
      rw [hA] at hA'
      obtain rfl : ad = ad' := Option.some.inj hA'
      subst hA
      have e1 : rd_T37 (S.order.map fun z => s37 (S.key z)) (q : Int) = s37 (S.key S.order[q]) := by unfold rd_T37; simp [hq0]
      have e2 : rd_T37 (S.order.map fun z => s37 (S.key z)) ((q + 1 : Nat) : Int) = s37 (S.key S.order[q + 1]) := by unfold rd_T37; simp [hq1]
      rw [e1, Int.toNat_natCast] at a0 a1 a2
      rw [e2, Int.toNat_natCast] at d0 d1 d2
      obtain ⟨⟨xs, xn, xd⟩, hx⟩ : ∃ x, S.key S.order[q] = x := ⟨_, rfl⟩
      obtain ⟨⟨ys, yn, yd⟩, hy⟩ : ∃ y, S.key S.order[q + 1] = y := ⟨_, rfl⟩
      rw [hx] at a0 a1 a2 hkl
      rw [hy] at d0 d1 d2 hkl
      simp only [s37] at a0 a1 a2 d0 d1 d2
      have HCMP := Aside0.mk (fun W => ikey_Compare.calls (0 + 4) xs xn xd ys yn yd _ W (compare_eq 0 _ _ _ _ _ _))
      have hkl2 : kc xs.toList xn xd ys.toList yn yd < 0 := of_decide_eq_true hkl
      obtain ⟨r, hr⟩ : ∃ r, kc xs.toList xn xd ys.toList yn yd = r := ⟨_, rfl⟩
      rw [hr] at HCMP hkl2
      have b2 : decide (r ≥ 0) = false := decide_eq_false (by omega)
      have hqi : (q : Int) + 1 ≤ 1048576 := by omega
      have hbq := HK.out
      have HAQ := Aside0.mk (fun (W : World) (hb : Below wr.heap.size wr W) => (⟨pw_cell_below hb a0, pw_cell_below hb a1, pw_cell_below hb a2, pw_cell_below hb d0, pw_cell_below hb d1, pw_cell_below hb d2⟩ : _ ∧ _ ∧ _ ∧ _ ∧ _ ∧ _))
      clear hkl hC hA' e1 e2 hx hy hr hq0 hq1 hbq
      have p0 := eq_true (show 0 ≤ (q : Int) by omega)
      have p1 := eq_true (show (q : Int) < (n : Int) by omega)
      have p2 := eq_true (show 0 ≤ (q : Int) + 1 by omega)
      have p3 := eq_true (show (q : Int) + 1 < (n : Int) by omega)
      have p4 := eq_true (show q < n by omega)
      have p5 : ((q : Int) + 1).toNat = q + 1 := by omega
      go_wp2_with fail
      have hwq : wrap64 (q : Int) = (q : Int) := by unfold wrap64; omega
      refine start_ (n := 11) (S := fun w' => w'.cell? (ad.add (q * 3)) = some (.string xs) ∧ w'.cell? ⟨(ad.add (q * 3)).block, (ad.add (q * 3)).off + 1, none⟩ = some (.int .u64 xn) ∧ w'.cell? ⟨(ad.add (q * 3)).block, (ad.add (q * 3)).off + 2, none⟩ = some (.int .i64 xd) ∧ w'.cell? (ad.add ((q + 1) * 3)) = some (.string ys) ∧ w'.cell? ⟨(ad.add ((q + 1) * 3)).block, (ad.add ((q + 1) * 3)).off + 1, none⟩ = some (.int .u64 yn) ∧ w'.cell? ⟨(ad.add ((q + 1) * 3)).block, (ad.add ((q + 1) * 3)).off + 2, none⟩ = some (.int .i64 yd)) (ds := []) #[false, false, false, false, false, false, false, false, false, false, false] (by kernel_rfl) rfl rfl ⟨a0, a1, a2, d0, d1, d2⟩ (fun hHeld => ?_)
      refine pure_ (i := 0) (N := some 48) (v := ?_) (a' := ?_) #[true, false, false, false, false, false, false, false, false, false, false] rfl rfl (by kernel_rfl) (fun _ _ _ h => h) (Or.inl ⟨by rfl, ?_⟩) ?_ ?_
      rotate_left
      · intro w'
        go_simp
        with_reducible rfl
      rotate_left
      · simp only [Act.put, List.setIfInBounds_toArray, List.set_cons_zero, List.set_cons_succ, i64_w, i32_w]
        rfl
      refine pure_ (i := 1) (N := some 49) (v := ?_) (a' := ?_) #[true, true, false, false, false, false, false, false, false, false, false] rfl rfl (by kernel_rfl) (fun _ _ _ h => h) (Or.inl ⟨by rfl, ?_⟩) ?_ ?_
      rotate_left
      · intro w'
        go_simp
        with_reducible rfl
      rotate_left
      · simp only [Act.put, List.setIfInBounds_toArray, List.set_cons_zero, List.set_cons_succ, i64_w, i32_w]
        rfl
      refine pure_ (i := 2) (N := some 50) (v := ?_) (a' := ?_) #[true, true, true, false, false, false, false, false, false, false, false] rfl rfl (by kernel_rfl) (fun _ _ _ h => h) (Or.inl ⟨by rfl, ?_⟩) ?_ ?_
      rotate_left
      · intro w'
        go_simp
        with_reducible rfl
      rotate_left
      · simp only [Act.put, List.setIfInBounds_toArray, List.set_cons_zero, List.set_cons_succ, i64_w, i32_w]
        rfl
      refine pure_ (i := 3) (N := some 51) (v := ?_) (a' := ?_) #[true, true, true, true, false, false, false, false, false, false, false] rfl rfl (by kernel_rfl) (fun _ _ _ h => h) (Or.inl ⟨by rfl, ?_⟩) ?_ ?_
      rotate_left
      · intro w'
        go_simp
        with_reducible rfl
      rotate_left
      · simp only [Act.put, List.setIfInBounds_toArray, List.set_cons_zero, List.set_cons_succ, i64_w, i32_w]
        rfl
      refine pure_ (i := 5) (N := some 53) (v := ?_) (a' := ?_) #[true, true, true, true, false, true, false, false, false, false, false] rfl rfl (by kernel_rfl) (fun _ _ _ h => h) (Or.inl ⟨by rfl, ?_⟩) ?_ ?_
      rotate_left
      · intro w'
        go_simp
        with_reducible rfl
      rotate_left
      · simp only [Act.put, List.setIfInBounds_toArray, List.set_cons_zero, List.set_cons_succ, i64_w, i32_w]
        rfl
      refine pure_ (i := 6) (N := some 54) (v := ?_) (a' := ?_) #[true, true, true, true, false, true, true, false, false, false, false] rfl rfl (by kernel_rfl) (fun _ _ _ h => h) (Or.inl ⟨by rfl, ?_⟩) ?_ ?_
      rotate_left
      · intro w'
        go_simp
        with_reducible rfl
      rotate_left
      · simp only [Act.put, List.setIfInBounds_toArray, List.set_cons_zero, List.set_cons_succ, i64_w, i32_w]
        rfl
      refine pure_ (i := 7) (N := some 55) (v := ?_) (a' := ?_) #[true, true, true, true, false, true, true, true, false, false, false] rfl rfl (by kernel_rfl) (fun _ _ _ h => h) (Or.inl ⟨by rfl, ?_⟩) ?_ ?_
      rotate_left
      · intro w'
        go_simp
        with_reducible rfl
      rotate_left
      · simp only [Act.put, List.setIfInBounds_toArray, List.set_cons_zero, List.set_cons_succ, i64_w, i32_w]
        rfl
      refine take_ (i := 4) (N := some 52) (v := ?_) (a' := ?_) #[true, true, true, true, true, true, true, true, false, false, false] rfl rfl (by kernel_rfl) (fun _ _ _ h => h) (Or.inl ⟨by rfl, ?_⟩) hHeld ?_ ?_
      rotate_left
      · rintro w' ⟨s0, s1, s2, s3, s4, s5⟩
        go_simp
        with_reducible rfl
      rotate_left
      · simp only [Act.put, List.setIfInBounds_toArray, List.set_cons_zero, List.set_cons_succ, i64_w, i32_w]
        rfl
      refine take_ (i := 8) (N := some 56) (v := ?_) (a' := ?_) #[true, true, true, true, true, true, true, true, true, false, false] rfl rfl (by kernel_rfl) (fun _ _ _ h => h) (Or.inl ⟨by rfl, ?_⟩) hHeld ?_ ?_
      rotate_left
      · rintro w' ⟨s0, s1, s2, s3, s4, s5⟩
        go_simp
        with_reducible rfl
      rotate_left
      · simp only [Act.put, List.setIfInBounds_toArray, List.set_cons_zero, List.set_cons_succ, i64_w, i32_w]
        rfl
      refine one_ (i := 9) (N := some 57) #[true, true, true, true, true, true, true, true, true, true, false] rfl rfl (by kernel_rfl) (by decide) (fun K hK => ?_)
      refine goes_ Try.func24 (by kernel_rfl) rfl #[.agg #[.string xs, .int .u64 xn, .int .i64 xd], .agg #[.string ys, .int .u64 yn, .int .i64 yd]] (by rfl) rfl rfl (by simp only [List.map_toArray, List.map_cons, List.map_nil]; rfl) ?_
      with_reducible refine (HCMP.out _).mono ?_
      rintro e wa ⟨rfl, hb⟩
      refine ⟨_, rfl, ?_⟩
      have HBA := Aside0.mk (show Below wr.heap.size wr wa from below_step (below_drew1 (Below.refl _ _)) hb)
      clear hb
      refine hK.out _ _ ⟨(HAQ.out _ HBA.out).1, (HAQ.out _ HBA.out).2.1, (HAQ.out _ HBA.out).2.2.1, (HAQ.out _ HBA.out).2.2.2.1, (HAQ.out _ HBA.out).2.2.2.2.1, (HAQ.out _ HBA.out).2.2.2.2.2⟩ (fun hHeld => ?_)
      clear hK K
      refine norm_ (a' := ?_) ?_ ?_
      rotate_left
      · show Act.put _ (some 57) _ = _
        simp only [Act.put, List.setIfInBounds_toArray, List.set_cons_zero, List.set_cons_succ, i64_w, i32_w]
        rfl
      refine pure_ (i := 10) (N := some 58) (v := ?_) (a' := ?_) #[true, true, true, true, true, true, true, true, true, true, true] rfl rfl (by kernel_rfl) (fun _ _ _ h => h) (Or.inl ⟨by rfl, ?_⟩) ?_ ?_
      rotate_left
      · intro w'
        go_simp
        with_reducible rfl
      rotate_left
      · simp only [Act.put, List.setIfInBounds_toArray, List.set_cons_zero, List.set_cons_succ, i64_w, i32_w]
        rfl
      refine done_ (by kernel_rfl) ?_
      clear a0 a1 a2 d0 d1 d2 hwq p0 p1 p2 p3 p4 p5
      go_wp2
      go_roundg gk1
      case measure => omega
      case rel => exact ⟨q + 1, by go_num, by omega, by omega, ⟨below_step HK.out HBA.out⟩⟩
    · have b1 : decide ((q : Int) + 1 < (n : Int)) = false := decide_eq_false (by omega)
      have HSK := Aside0.mk (HSK.out.below HK.out)
      have HB := Aside0.mk (below_step HB.out HK.out)
      clear hq hqn hkq HK
      go_wp2_with fail
      obtain ⟨W0, hW0⟩ : ∃ W0, wr = W0 := ⟨_, rfl⟩
      rw [hW0] at HSK HB ⊢
      have HK0 := Aside0.mk (Below.refl W0.heap.size W0)
      clear hW0 b1
      go_loopg [8] (1 + H) (fun kq v8 wq => ∃ (i : Nat), v8 = .int .i64 (i : Int) ∧ i ≤ H ∧ H - i < kq ∧ Aside0 (Below W0.heap.size W0 wq))
      case atStart => exact ⟨0, rfl, Nat.zero_le _, by omega, HK0⟩
      case round =>
        clear HK0
        obtain ⟨i, rfl, hiH, hkq, HK⟩ := hrel
        cases gk with
        | zero => omega
        | succ gk1 =>
        have HSK := Aside0.mk (HSK.out.below HK.out)
        go_wp2_with fail
        (with_reducible refine (HHT.out _ HSK.out).mono ?_)
        rintro e wh ⟨rfl, rfl⟩
        by_cases hi : i < H
        · have b1 : decide ((i : Int) < (H : Int)) = true := decide_eq_true (by omega)
          have b1n : decide (i < H) = true := decide_eq_true hi
          have hl0 : lvl S (i : Int) = lvls S i S.order := lvl_nat S i
          have hl1 : lvl S ((i : Int) + 1) = lvls S (i + 1) S.order := lvl_nat S (i + 1)
          have hle0 : (lvls S i S.order).length ≤ 1099511627776 := by have h1 := lvls_len S i S.order; have h2 := HO.out; omega
          have hle1 : (lvls S (i + 1) S.order).length ≤ 1099511627776 := by have h1 := lvls_len S (i + 1) S.order; have h2 := HO.out; omega
          have hsub := lvls_sub (S := S) S.order i
          have hne : (lvls S i S.order).length ≠ 0 := fun e => lvls_ne HF.out.1 (by rw [HH.out]; exact hi) (List.length_eq_zero_iff.1 e)
          have HL0 := Aside0.mk (fun W (h : SkAt W g base S 1048576) => HLV.out (i : Int) W h)
          have HL1 := Aside0.mk (fun W (h : SkAt W g base S 1048576) => HLV.out ((i : Int) + 1) W h)
          rw [hl0] at HL0
          rw [hl1] at HL1
          generalize lvls S i S.order = L0 at HL0 hle0 hsub hne
          generalize lvls S (i + 1) S.order = L1 at HL1 hle1 hsub
          have HSU := Aside0.mk hsub
          obtain ⟨n0, hn0⟩ : ∃ n0, L0.length = n0 := ⟨_, rfl⟩
          obtain ⟨n1, hn1⟩ : ∃ n1, L1.length = n1 := ⟨_, rfl⟩
          have HLE := Aside0.mk (And.intro hle0 hle1)
          rw [hn0] at hne
          have HN0 := Aside0.mk hn0
          have HN1 := Aside0.mk hn1
          have b3 : ((n0 : Int) == 0) = false := by simp; omega
          have b3n : (n0 == 0) = false := by simp; omega
          have hii : (i : Int) + 1 ≤ 13 := by omega
          clear hl0 hl1 hle0 hle1 hsub hn0 hn1 hne
          go_wp2_with fail
          (with_reducible refine (HL1.out _ HSK.out).mono ?_)
          rintro e wa ⟨v, rfl, hr, hb⟩
          obtain ⟨Aa, ca, rfl, hc, hC⟩ := Kd.R_reads hr
          rw [HN1.out] at hc hC ⊢
          have HCa := Aside0.mk hC
          have HLa := Aside0.mk hc
          have HSK := Aside0.mk (HSK.out.below hb)
          have HK := Aside0.mk (below_step HK.out hb)
          clear hr hC hc hb
          go_wp2_with fail
          (with_reducible refine (HL0.out _ HSK.out).mono ?_)
          rintro e wb ⟨v, rfl, hr, hb⟩
          obtain ⟨Ab, cb, rfl, hc, hC⟩ := Kd.R_reads hr
          rw [HN0.out] at hc hC ⊢
          have HCb := Aside0.mk hC
          have HLb := Aside0.mk hc
          have HSK := Aside0.mk (HSK.out.below hb)
          have HK := Aside0.mk (below_step HK.out hb)
          have HCa := Aside0.mk (Kd.C_below HCa.out hb)
          clear hr hC hc hb
          go_wp2_with fail
          (with_reducible refine (subset_rows (a := L1) (b := L0) (by rw [HN1.out]; exact HCa.out) (by rw [HN0.out]; exact HCb.out) (by rw [HN1.out]; exact HLa.out) (by rw [HN0.out]; exact HLb.out) HLE.out.2 HLE.out.1 HSU.out HN1.out.symm HN0.out.symm).mono ?_)
          rintro e wc ⟨rfl, hb⟩
          have HSK := Aside0.mk (HSK.out.below hb)
          have HK := Aside0.mk (below_step HK.out hb)
          clear hb HCa HCb HLa HLb
          go_wp2_with fail
          (with_reducible refine (HL0.out _ HSK.out).mono ?_)
          rintro e wd ⟨v, rfl, hr, hb⟩
          obtain ⟨Ad, cd, rfl, hc, hC⟩ := Kd.R_reads hr
          rw [HN0.out] at hc hC ⊢
          have HCd := Aside0.mk hC
          have HLd := Aside0.mk hc
          have HSK := Aside0.mk (HSK.out.below hb)
          have HK := Aside0.mk (below_step HK.out hb)
          clear hr hC hc hb
          go_wp2
          go_roundg gk1
          case measure => omega
          case rel => exact ⟨i + 1, by go_num, by omega, by omega, HK⟩
        · obtain rfl : i = H := by omega
          have b1 : decide ((i : Int) < (i : Int)) = false := decide_eq_false (by omega)
          have b1n : decide (i < i) = false := decide_eq_false (by omega)
          have HB := Aside0.mk (below_step HB.out HK.out)
          have hl0 : lvl S (i : Int) = [] := (lvl_nat S i).trans (lvls_high HF.out.1 (by rw [HH.out]; exact Nat.le_refl _))
          have hl1 : lvl S (-1) = [] := lvl_neg S (by omega)
          have HL0 := Aside0.mk (fun W (h : SkAt W g base S 1048576) => HLV.out (i : Int) W h)
          have HL1 := Aside0.mk (fun W (h : SkAt W g base S 1048576) => HLV.out (-1) W h)
          rw [hl0] at HL0
          rw [hl1] at HL1
          clear hl0 hl1
          go_wp2_with fail
          (with_reducible refine (HHT.out _ HSK.out).mono ?_)
          rintro e wh2 ⟨rfl, rfl⟩
          go_wp2_with fail
          (with_reducible refine (HL0.out _ HSK.out).mono ?_)
          rintro e wi ⟨v, rfl, hr, hb⟩
          obtain ⟨Aa, ca, rfl, _, _⟩ := Kd.R_reads hr
          have HSK := Aside0.mk (HSK.out.below hb)
          have HB := Aside0.mk (below_step HB.out hb)
          rw [show ([] : List Int).length = 0 from rfl]
          clear hr hb
          go_wp2_with fail
          (with_reducible refine (HL1.out _ HSK.out).mono ?_)
          rintro e wj ⟨v, rfl, hr, hb⟩
          obtain ⟨Ab, cb, rfl, _, _⟩ := Kd.R_reads hr
          have HSK := Aside0.mk (HSK.out.below hb)
          have HB := Aside0.mk (below_step HB.out hb)
          rw [show ([] : List Int).length = 0 from rfl]
          clear hr hb
          go_wp2_with fail
          (with_reducible refine (HHT.out _ HSK.out).mono ?_)
          rintro e wk ⟨rfl, rfl⟩
          have HEQ := Aside0.mk (show ((i : Int) == 0) = ((n : Int) == 0) by
            have := HZ.out
            rw [Bool.eq_iff_iff]
            simp
            exact this)
          go_wp2
          go_ret
          exact ⟨congrArg (fun b : Bool => Ending.returned (Value.bool b)) (show (((i : Int) == 0) == ((n : Int) == 0)) = true by rw [HEQ.out]; simp), HB.out⟩
theorem SkipRises_upto (w : World) (A0 : Option Addr) (c0 : Nat) (l0 : List (S37 × Int)) (hc0 : l0.length ≤ c0) (hr0 : Kd.C (Kd.pair k37 (Kd.int .i64)) w A0 l0.length l0) (hg0 : ∀ x ∈ l0, (x.1.f0.size ≤ maxLen ∧ (Lit.int .u64 x.1.f1).wf = true ∧ (Lit.int .i64 x.1.f2).wf = true) ∧ (Lit.int .i64 x.2).wf = true)
    (hbulk : (sumBulk (fun x : S37 × Int => (x.1.f0.size + 1 + 1 + 1 + 1) + 1 + 1) l0 + 1) ≤ 1048576) :
    Calls Try.prog 7 #[.slice A0 l0.length c0] w fun e w' => e = .returned (.bool true) ∧ Below w.heap.size w w' := by
  have hlen := sumBulk_len (fun x : S37 × Int => (x.1.f0.size + 1 + 1 + 1 + 1) + 1 + 1) (fun _ => by omega) l0
  exact rises_calls A0 c0 l0 w hr0 hc0 (by omega)

end Go.Proofs.Ytehfcafmdnfamaa.G
