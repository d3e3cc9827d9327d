/- Contracts typed by hand: the law SkipNil: lists that no call gave -/
import Derived.Test.YtehfcafmdnfamaaProg
import Derived.Below
import Derived.Deep.Draws
import Derived.Deep.AppendLies
import Derived.Maps.AppendAt
import Derived.OwnWalk
import Derived.Laws.BytesArg
import Derived.Laws.MakeOwn
import Derived.Laws.OwnMore
import Derived.Deep.OwnRows
import Derived.Tactics
import Derived.Lib.ConvBytes
import Derived.Laws.Slices
import Derived.WalkKit
import Derived.KernelRfl
import Derived.RowKit3
import Derived.Deep.LoopGhost
import Derived.Deep.QuietTactic
import Derived.BigQuiet
import Derived.WideLaws
import Derived.Deep.DeepCutAuto
import Derived.Deep.CutBlock
import Derived.Deep.RegionHeld3
import Derived.Laws.Rows
import Derived.Lib.AppendStr
import Derived.ArgAppend
import Derived.Laws.IdiomCopy
import Derived.OrdersHeld
import Derived.Laws.BitsLemmas
import Derived.RowKit
import Derived.Test.YtehfcafmdnfamaaWWords
import Derived.Test.YtehfcafmdnfamaaWLast
import Derived.Test.YtehfcafmdnfamaaWTab
import Derived.Test.YtehfcafmdnfamaaWFour
import Derived.Test.YtehfcafmdnfamaaWQPut
import Derived.Test.YtehfcafmdnfamaaWApart
import Derived.Test.YtehfcafmdnfamaaWArr
import Derived.Test.YtehfcafmdnfamaaWZeros
import Derived.Test.YtehfcafmdnfamaaWFoot
import Derived.Test.YtehfcafmdnfamaaWKept
import Derived.Test.YtehfcafmdnfamaaWShare
import Derived.Test.YtehfcafmdnfamaaWN
import Derived.Test.YtehfcafmdnfamaaWFootNe
import Derived.Test.YtehfcafmdnfamaaWAt
import Derived.Test.YtehfcafmdnfamaaWEqStruct
import Derived.Test.YtehfcafmdnfamaaWRepsOne
import Derived.Test.YtehfcafmdnfamaaWInv
import Derived.Test.YtehfcafmdnfamaaWInvWords
import Derived.Test.YtehfcafmdnfamaaWGuard
import Derived.Test.YtehfcafmdnfamaaWNEv
import Derived.Test.YtehfcafmdnfamaaWMore
import Derived.RangeFuncRecord
import Derived.RangeFuncNested
import Derived.BigRegionIn
import Derived.LoopIn
import Derived.Shelf.Abstract
import Derived.OwnWalkIn
import Derived.RangeFuncCalls
import Derived.RangeFuncLeaves
import Derived.TacticsInMore
import Derived.Deep.RegionWith
namespace Go.Proofs.Ytehfcafmdnfamaa.G
open Go.RowKit Go.Proofs.YtehfcafmdnfamaaW.PrintWords Go.Proofs.YtehfcafmdnfamaaW.PrintLast Go.Proofs.YtehfcafmdnfamaaW.PrintMore
attribute [local go_sem] max2_int min2_int max_two min_two max_three min_three max_four min_four
set_option linter.unusedVariables false
set_option linter.unusedSimpArgs false

/-! the law SkipNil: lists that no call gave -/
open Go.Shelf
attribute [local go_sem] Oper.semAt_some
/-- nil, or a list of noughts -/
def NobL (W : World) (p : Option Addr) : Prop := p = none ∨ ∃ B, p = some ⟨B, 0, none⟩ ∧ W.heap[B]? = some (.cells #[.slice none 0 0, .int .i64 0, .int .i64 0, .int .i64 0] 78 (0, 0))
theorem NobL.below {W W' : World} {p : Option Addr} (h : NobL W p) (hb : Below W.heap.size W W') : NobL W' p := by
  rcases h with rfl | ⟨B, rfl, h⟩
  · exact .inl rfl
  · exact .inr ⟨B, rfl, (hb.block B (Array.getElem?_eq_some_iff.1 h).1).trans h⟩
set_option maxHeartbeats 2000000 in
theorem lnone (p : Option Addr) (w : World) (h : NobL w p) : Calls Try.prog 39 #[.pointer p] w fun e w' => e = .returned (.bool true) ∧ Below w.heap.size w w' := by
  rcases h with rfl | ⟨B, rfl, h⟩
  · go_enter Try.func39, Try.ntmps39
    go_wp2
    go_ret
    exact ⟨rfl, Below.refl _ _⟩
  · have q : w.cell? ⟨B, 0, none⟩ = some (.slice none 0 0) := by simp [World.cell?, h]
    clear h
    go_enter Try.func39, Try.ntmps39
    go_wp2
    go_ret
    exact ⟨rfl, Below.refl _ _⟩
set_option maxHeartbeats 2000000 in
theorem llen (p : Option Addr) (w : World) (h : NobL w p) : Calls Try.prog 21 #[.pointer p] w fun e w' => e = .returned (.int .i64 0) ∧ Below w.heap.size w w' := by
  have H := Aside0.mk h
  clear h
  go_enter Try.func21, Try.ntmps21
  go_wp2_with fail
  (with_reducible refine (lnone p _ H.out).mono ?_)
  rintro e w1 ⟨rfl, hb⟩
  have HB := Aside0.mk hb
  clear hb
  go_wp2
  go_ret
  exact ⟨rfl, HB.out⟩
set_option maxHeartbeats 2000000 in
theorem lheight (p : Option Addr) (w : World) (h : NobL w p) : Calls Try.prog 22 #[.pointer p] w fun e w' => e = .returned (.int .i64 0) ∧ Below w.heap.size w w' := by
  have H := Aside0.mk h
  clear h
  go_enter Try.func22, Try.ntmps22
  go_wp2_with fail
  (with_reducible refine (lnone p _ H.out).mono ?_)
  rintro e w1 ⟨rfl, hb⟩
  have HB := Aside0.mk hb
  clear hb
  go_wp2
  go_ret
  exact ⟨rfl, HB.out⟩
set_option maxHeartbeats 2000000 in
theorem lfirst (p : Option Addr) (w : World) (h : NobL w p) : Calls Try.prog 27 #[.pointer p] w fun e w' => e = .returned (.int .i64 0) ∧ Below w.heap.size w w' := by
  have H := Aside0.mk h
  clear h
  go_enter Try.func27, Try.ntmps27
  go_wp2_with fail
  (with_reducible refine (lnone p _ H.out).mono ?_)
  rintro e w1 ⟨rfl, hb⟩
  have HB := Aside0.mk hb
  clear hb
  go_wp2
  go_ret
  exact ⟨rfl, HB.out⟩
set_option maxHeartbeats 2000000 in
theorem llast (p : Option Addr) (w : World) (h : NobL w p) : Calls Try.prog 38 #[.pointer p] w fun e w' => e = .returned (.int .i64 0) ∧ Below w.heap.size w w' := by
  have H := Aside0.mk h
  clear h
  go_enter Try.func38, Try.ntmps38
  go_wp2_with fail
  (with_reducible refine (lnone p _ H.out).mono ?_)
  rintro e w1 ⟨rfl, hb⟩
  have HB := Aside0.mk hb
  clear hb
  go_wp2
  go_ret
  exact ⟨rfl, HB.out⟩
set_option maxHeartbeats 2000000 in
theorem lbefore (p : Option Addr) (k : ByteArray) (s n : Int) (w : World) (h : NobL w p) : Calls Try.prog 25 #[.pointer p, .agg #[.string k, .int .u64 s, .int .i64 n]] w fun e w' => e = .returned (.int .i64 0) ∧ Below w.heap.size w w' := by
  have HB0 := Aside0.mk (below_alloc (Below.refl w.heap.size w) (.cells #[.string k, .int .u64 s, .int .i64 n] 37))
  have H := Aside0.mk (h.below HB0.out)
  have HX := Aside0.mk (World.alloc_heap_new w (.cells #[.string k, .int .u64 s, .int .i64 n] 37))
  clear h
  go_enter Try.func25, Try.ntmps25
  go_wp2_with fail
  (with_reducible refine (lnone p _ H.out).mono ?_)
  rintro e w1 ⟨rfl, hb⟩
  have hx := (hb.block _ (blk_lt HX.out)).trans HX.out
  have x0 := blk_cell hx 0
  have x1 := blk_cell hx 1
  have x2 := blk_cell hx 2
  have y0 := blk_frozen hx 0
  have y1 := blk_frozen hx 1
  have y2 := blk_frozen hx 2
  have HX1 := Aside0.mk hx
  have HB := Aside0.mk (below_step HB0.out hb)
  clear hb hx
  go_wp2
  go_ret
  exact ⟨rfl, HB.out⟩
set_option maxHeartbeats 2000000 in
theorem lseek (p : Option Addr) (k : ByteArray) (s n : Int) (w : World) (h : NobL w p) : Calls Try.prog 26 #[.pointer p, .agg #[.string k, .int .u64 s, .int .i64 n]] w fun e w' => e = .returned (.int .i64 0) ∧ Below w.heap.size w w' := by
  have HB0 := Aside0.mk (below_alloc (Below.refl w.heap.size w) (.cells #[.string k, .int .u64 s, .int .i64 n] 37))
  have H := Aside0.mk (h.below HB0.out)
  have HX := Aside0.mk (World.alloc_heap_new w (.cells #[.string k, .int .u64 s, .int .i64 n] 37))
  clear h
  go_enter Try.func26, Try.ntmps26
  go_wp2_with fail
  (with_reducible refine (lnone p _ H.out).mono ?_)
  rintro e w1 ⟨rfl, hb⟩
  have hx := (hb.block _ (blk_lt HX.out)).trans HX.out
  have x0 := blk_cell hx 0
  have x1 := blk_cell hx 1
  have x2 := blk_cell hx 2
  have y0 := blk_frozen hx 0
  have y1 := blk_frozen hx 1
  have y2 := blk_frozen hx 2
  have HX1 := Aside0.mk hx
  have HB := Aside0.mk (below_step HB0.out hb)
  clear hb hx
  go_wp2
  go_ret
  exact ⟨rfl, HB.out⟩
set_option maxHeartbeats 2000000 in
theorem lhas (p : Option Addr) (n : Int) (w : World) (h : NobL w p) : Calls Try.prog 47 #[.pointer p, .int .i64 n] w fun e w' => e = .returned (.bool false) ∧ Below w.heap.size w w' := by
  have H := Aside0.mk h
  clear h
  go_enter Try.func47, Try.ntmps47
  go_wp2_with fail
  (with_reducible refine (lnone p _ H.out).mono ?_)
  rintro e w1 ⟨rfl, hb⟩
  have HB := Aside0.mk hb
  clear hb
  go_wp2
  go_ret
  exact ⟨rfl, HB.out⟩
theorem lhas_ (n : Int) (p : Option Addr) (w : World) (h : NobL w p) : Calls Try.prog 47 #[.pointer p, .int .i64 n] w fun e w' => e = .returned (.bool false) ∧ Below w.heap.size w w' := lhas p n w h
set_option maxHeartbeats 2000000 in
theorem lnext (p : Option Addr) (n : Int) (w : World) (h : NobL w p) : Calls Try.prog 28 #[.pointer p, .int .i64 n] w fun e w' => e = .returned (.int .i64 0) ∧ Below w.heap.size w w' := by
  have H := Aside0.mk h
  clear h
  go_enter Try.func28, Try.ntmps28
  go_wp2_with fail
  (with_reducible refine (lhas_ n p _ H.out).mono ?_)
  rintro e w1 ⟨rfl, hb⟩
  have HB := Aside0.mk hb
  clear hb
  go_wp2
  go_ret
  exact ⟨rfl, HB.out⟩
set_option maxHeartbeats 2000000 in
theorem lprev (p : Option Addr) (n : Int) (w : World) (h : NobL w p) : Calls Try.prog 29 #[.pointer p, .int .i64 n] w fun e w' => e = .returned (.int .i64 0) ∧ Below w.heap.size w w' := by
  have H := Aside0.mk h
  clear h
  go_enter Try.func29, Try.ntmps29
  go_wp2_with fail
  (with_reducible refine (lhas_ n p _ H.out).mono ?_)
  rintro e w1 ⟨rfl, hb⟩
  have HB := Aside0.mk hb
  clear hb
  go_wp2
  go_ret
  exact ⟨rfl, HB.out⟩
set_option maxHeartbeats 2000000 in
theorem linsert (p : Option Addr) (k : ByteArray) (s n : Int) (v h0 : Int) (w : World) (h : NobL w p) : Calls Try.prog 13 #[.pointer p, .agg #[.string k, .int .u64 s, .int .i64 n], .int .i64 v, .int .i64 h0] w fun e w' => e = .returned (.int .i64 1) ∧ Below w.heap.size w w' := by
  have HB0 := Aside0.mk (below_alloc (Below.refl w.heap.size w) (.cells #[.string k, .int .u64 s, .int .i64 n] 37))
  have H := Aside0.mk (h.below HB0.out)
  have HX := Aside0.mk (World.alloc_heap_new w (.cells #[.string k, .int .u64 s, .int .i64 n] 37))
  clear h
  go_enter Try.func13, Try.ntmps13
  go_wp2_with fail
  (with_reducible refine (lnone p _ H.out).mono ?_)
  rintro e w1 ⟨rfl, hb⟩
  have hx := (hb.block _ (blk_lt HX.out)).trans HX.out
  have x0 := blk_cell hx 0
  have x1 := blk_cell hx 1
  have x2 := blk_cell hx 2
  have y0 := blk_frozen hx 0
  have y1 := blk_frozen hx 1
  have y2 := blk_frozen hx 2
  have HX1 := Aside0.mk hx
  have HB := Aside0.mk (below_step HB0.out hb)
  clear hb hx
  go_wp2
  go_ret
  exact ⟨rfl, HB.out⟩
set_option maxHeartbeats 2000000 in
theorem llinks (p : Option Addr) (n : Int) (w : World) (h : NobL w p) : Calls Try.prog 18 #[.pointer p, .int .i64 n] w fun e w' => e = .returned (.slice none 0 0) ∧ Below w.heap.size w w' := by
  have H := Aside0.mk h
  clear h
  go_enter Try.func18, Try.ntmps18
  go_wp2_with fail
  (with_reducible refine (lnone p _ H.out).mono ?_)
  rintro e w1 ⟨rfl, hb⟩
  have HB := Aside0.mk hb
  clear hb
  go_wp2
  go_ret
  exact ⟨rfl, HB.out⟩
set_option maxHeartbeats 2000000 in
theorem ltrail (p : Option Addr) (k : ByteArray) (s n : Int) (w : World) (h : NobL w p) : Calls Try.prog 19 #[.pointer p, .agg #[.string k, .int .u64 s, .int .i64 n]] w fun e w' => e = .returned (.slice none 0 0) ∧ Below w.heap.size w w' := by
  have HB0 := Aside0.mk (below_alloc (Below.refl w.heap.size w) (.cells #[.string k, .int .u64 s, .int .i64 n] 37))
  have H := Aside0.mk (h.below HB0.out)
  have HX := Aside0.mk (World.alloc_heap_new w (.cells #[.string k, .int .u64 s, .int .i64 n] 37))
  clear h
  go_enter Try.func19, Try.ntmps19
  go_wp2_with fail
  (with_reducible refine (lnone p _ H.out).mono ?_)
  rintro e w1 ⟨rfl, hb⟩
  have hx := (hb.block _ (blk_lt HX.out)).trans HX.out
  have x0 := blk_cell hx 0
  have x1 := blk_cell hx 1
  have x2 := blk_cell hx 2
  have y0 := blk_frozen hx 0
  have y1 := blk_frozen hx 1
  have y2 := blk_frozen hx 2
  have HX1 := Aside0.mk hx
  have HB := Aside0.mk (below_step HB0.out hb)
  clear hb hx
  go_wp2
  go_ret
  exact ⟨rfl, HB.out⟩
set_option maxHeartbeats 4000000 in
set_option maxRecDepth 100000 in
theorem lnode (p : Option Addr) (n : Int) (w : World) (h : NobL w p) : Calls Try.prog 23 #[.pointer p, .int .i64 n] w fun e w' => e = .returned (.tuple #[.agg #[.string (⟨#[]⟩ : ByteArray), .int .u64 0, .int .i64 0], .int .i64 0, .bool false]) ∧ Below w.heap.size w w' := by
  have HB0 := Aside0.mk (below_alloc (Below.refl w.heap.size w) (.cells #[.string (⟨#[]⟩ : ByteArray), .int .u64 0, .int .i64 0] 37))
  have H := Aside0.mk (h.below HB0.out)
  have HX := Aside0.mk (World.alloc_heap_new w (.cells #[.string (⟨#[]⟩ : ByteArray), .int .u64 0, .int .i64 0] 37))
  clear h
  go_enter Try.func23, Try.ntmps23
  go_wp2_with fail
  (with_reducible refine (lhas p n _ H.out).mono ?_)
  rintro e w3 ⟨rfl, hb⟩
  have HX3 := Aside0.mk ((hb.block _ (blk_lt HX.out)).trans HX.out)
  have HB := Aside0.mk (below_step HB0.out hb)
  clear hb
  have hz0 : w3.cell? ⟨w.heap.size, 0, none⟩ = some (.string (⟨#[]⟩ : ByteArray)) := (blk_cell HX3.out 0).trans rfl
  have hz1 : w3.cell? ⟨w.heap.size, 1, none⟩ = some (.int .u64 0) := (blk_cell HX3.out 1).trans rfl
  have hz2 : w3.cell? ⟨w.heap.size, 2, none⟩ = some (.int .i64 0) := (blk_cell HX3.out 2).trans rfl
  have hf0 := blk_frozen HX3.out 0
  have hf1 := blk_frozen HX3.out 1
  have hf2 := blk_frozen HX3.out 2
  go_wp2
  refine bodyPost_ret (results_ctt rfl _ _ w.heap.size 37 #[.string (⟨#[]⟩ : ByteArray), .int .u64 0, .int .i64 0] (0, 0) _ rfl ?bk3 Try.underlying37 rfl (by kernel_rfl)) rfl ?_
  case bk3 => exact blk_put (cs := #[.string (⟨#[]⟩ : ByteArray), .int .u64 0, .int .i64 0]) (blk_put (cs := #[.string (⟨#[]⟩ : ByteArray), .int .u64 0, .int .i64 0]) (blk_put (cs := #[.string (⟨#[]⟩ : ByteArray), .int .u64 0, .int .i64 0]) HX3.out 0 _ rfl) 1 _ rfl) 2 _ rfl
  exact ⟨rfl, below_set (below_set (below_set HB.out (Nat.le_refl _)) (Nat.le_refl _)) (Nat.le_refl _)⟩
set_option maxHeartbeats 4000000 in
set_option maxRecDepth 100000 in
theorem lget (p : Option Addr) (k : ByteArray) (s n : Int) (w : World) (h : NobL w p) : Calls Try.prog 32 #[.pointer p, .agg #[.string k, .int .u64 s, .int .i64 n]] w fun e w' => e = .returned (.tuple #[.int .i64 0, .bool false]) ∧ Below w.heap.size w w' := by
  have HB0 := Aside0.mk (below_alloc (Below.refl w.heap.size w) (.cells #[.string k, .int .u64 s, .int .i64 n] 37))
  have H := Aside0.mk (h.below HB0.out)
  have HX := Aside0.mk (World.alloc_heap_new w (.cells #[.string k, .int .u64 s, .int .i64 n] 37))
  clear h
  go_enter Try.func32, Try.ntmps32
  go_wp2_with fail
  (with_reducible refine (lseek p k s n _ H.out).mono ?_)
  rintro e w1 ⟨rfl, hb⟩
  have HB := Aside0.mk (below_step HB0.out hb)
  clear hb
  go_wp2
  go_quiet (fail)
  all_goals go_wp2
  refine bodyPost_ret (by simp [results, Try.results32, go_sem]; rfl) rfl ?_
  exact ⟨rfl, pw_below_drewN HB.out _⟩
set_option maxHeartbeats 4000000 in
set_option maxRecDepth 100000 in
theorem lall (p : Option Addr) (w : World) (h : NobL w p) : Calls Try.prog 15 #[.pointer p] w fun e w' => e = .returned (.func (.func 45) #[] #[.pointer (some ⟨w.heap.size + 1, 0, none⟩), .pointer (some ⟨w.heap.size, 0, none⟩)]) ∧ w'.heap[w.heap.size + 1]? = some (.cells #[.slice none 0 0] 28 (0, 0)) ∧ Below w.heap.size w w' := by
  have HB0 := Aside0.mk (below_alloc (below_alloc (Below.refl w.heap.size w) (.cells #[.pointer p] 23)) (.cells #[.slice none 0 0] 28))
  have H := Aside0.mk (h.below HB0.out)
  have hx0 := World.alloc_heap_new (w.alloc (.cells #[.pointer p] 23)) (.cells #[.slice none 0 0] 28)
  rw [World.size_alloc] at hx0
  have HX := Aside0.mk hx0
  clear h hx0
  go_enter Try.func15, Try.ntmps15
  go_wp2_with fail
  (with_reducible refine (lfirst p _ H.out).mono ?_)
  rintro e w3 ⟨rfl, hb⟩
  have HX3 := Aside0.mk ((hb.block _ (blk_lt HX.out)).trans HX.out)
  have HB := Aside0.mk (below_step HB0.out hb)
  clear hb
  go_wp2_with fail
  go_loopw [4] (fun v4 wr => v4 = .int .i64 0 ∧ wr = w3) (fun _ _ => 0)
  case atStart => exact ⟨rfl, rfl⟩
  case round =>
    obtain ⟨rfl, rfl⟩ := hrel
    go_wp2
    go_ret
    exact ⟨rfl, HX3.out, HB.out⟩
theorem cells_own (B : Nat) (cs : Array Value) (t : TypeId) : ∀ (X Y : World) (row : Option Nat), X.heap[B]? = some (.cells cs t (0, 0)) → X.grownBy Y row → (∀ r, row = some r → ∃ o : Obj, X.heap[r]? = some o ∧ o.isCells = false) → Y.heap[B]? = some (.cells cs t (0, 0)) := fun X Y row h hg hrow =>
  (hg.block B (blk_lt h) (fun e' => by
    obtain ⟨o, ho, hc⟩ := hrow B e'.symm
    rw [h] at ho; cases ho; cases hc)).trans h
set_option maxHeartbeats 4000000 in
set_option maxRecDepth 100000 in
theorem all1_nil (y : Value) (Bo Bl : Nat) (W : World) (h : W.heap[Bo]? = some (.cells #[.slice none 0 0] 28 (0, 0))) : Calls Try.prog 45 #[y, .pointer (some ⟨Bo, 0, none⟩), .pointer (some ⟨Bl, 0, none⟩)] W fun e w' => (∃ v, e = .returned v) ∧ W = w' := by
  have q : W.cell? ⟨Bo, 0, none⟩ = some (.slice none 0 0) := blk_cell h 0
  clear h
  go_enter Try.func45, Try.ntmps45
  go_wp2_with fail
  go_loopw [8] (fun v8 wr => v8 = .int .i64 0 ∧ wr = W) (fun _ _ => 0)
  case atStart => exact ⟨rfl, rfl⟩
  case round =>
    obtain ⟨rfl, rfl⟩ := hrel
    go_wp2
    go_end0
    exact ⟨⟨_, rfl⟩, rfl⟩
set_option maxHeartbeats 8000000 in
set_option maxRecDepth 100000 in
theorem gone_in (p : Option Addr) (m : Int) (w : World) (h : NobL w p) : CallsIn Fence.wide 3 Try.prog 31 #[.pointer p, .int .i64 m] w fun e w' => e = .returned (.tuple #[.slice none 0 0, .slice none 0 0]) ∧ Below w.heap.size w w' := by
  have HB0 := Aside0.mk (below_alloc (below_alloc (below_alloc (Below.refl w.heap.size w) (.cells #[.int .i64 m] 3)) (.cells #[.slice none 0 0] 28)) (.cells #[.slice none 0 0] 60))
  have H := Aside0.mk (h.below HB0.out)
  obtain ⟨W0, hW0⟩ : ∃ W0, ((w.alloc (.cells #[.int .i64 m] 3)).alloc (.cells #[.slice none 0 0] 28)).alloc (.cells #[.slice none 0 0] 60) = W0 := ⟨_, rfl⟩
  have hk := World.alloc_heap_new ((w.alloc (.cells #[.int .i64 m] 3)).alloc (.cells #[.slice none 0 0] 28)) (.cells #[.slice none 0 0] 60)
  have hn := World.alloc_heap_new (w.alloc (.cells #[.int .i64 m] 3)) (.cells #[.slice none 0 0] 28)
  rw [World.size_alloc] at hn
  rw [World.size_alloc, World.size_alloc, hW0] at hk
  have hn' : W0.heap[w.heap.size + 1]? = some (.cells #[.slice none 0 0] 28 (0, 0)) := by rw [← hW0]; exact (Below.heap_alloc _ _ _ (by rw [World.size_alloc, World.size_alloc]; omega)).trans hn
  have HN := Aside0.mk hn'
  have HK := Aside0.mk hk
  rw [hW0] at HB0 H
  have HW := Aside0.mk hW0
  clear h hn hk hn' hW0
  refine callsIn_of_wp_marks Try.func31 rfl trivial ?_ rfl
  simp only [Try.ntmps31, List.size_toArray, List.length_cons, List.length_nil, Nat.reduceAdd, Nat.reduceSub, Array.replicate_succ, Array.replicate_zero, List.push_toArray, List.append_toArray, List.nil_append, List.cons_append]
  gi_wp2_with fail
  refine ⟨trivial, ?_⟩
  rw [HW.out]
  (with_reducible refine (callsIn_wide.2 (lall p _ H.out)).mono ?_)
  rintro e w3 ⟨rfl, hx, hb⟩
  have HO := Aside0.mk hx
  have HB3 := Aside0.mk (below_step HB0.out hb)
  have HN3 := Aside0.mk ((hb.block _ (blk_lt HN.out)).trans HN.out)
  have HK3 := Aside0.mk ((hb.block _ (blk_lt HK.out)).trans HK.out)
  clear hx hb
  have hcmp : ∀ (lb : Array Value) (X : World), (binOp .eql 42 (.func (.func 45) #[] lb) .nilFunc).run Try.prog X = .ok (.bool false) X := by
    intro lb X
    first | rfl | (simp [binOp, go_sem]; done) | (unfold binOp; simp [go_sem, Try.underlying42]; done)
  gi_wp2_with fail
  gi_wp2_with fail
  refine wpIn_rangeFunc_ownH (α := Empty) (n := 3) (F := Fence.wide) rfl (by decide) (gf := 45) (lb := #[.pointer (some ⟨W0.heap.size + 1, 0, none⟩), .pointer (some ⟨W0.heap.size, 0, none⟩)]) rfl trivial (enters_of Try.func45 (by kernel_rfl) rfl) (encs := fun x => x.elim) (Kp := fun _ _ => True) (S := fun ys => ys = []) (Sp := fun _ => False) (N := 0) (w0 := w3) ?seq (fun _ _ => trivial) (fun _ _ _ _ _ _ _ _ => trivial) (Below.refl _ _) (fun x => x.elim)
    (fun _ W => Below w.heap.size w W ∧ W.heap[w.heap.size + 1]? = some (.cells #[.slice none 0 0] 28 (0, 0)) ∧ W.heap[w.heap.size + 1 + 1]? = some (.cells #[.slice none 0 0] 60 (0, 0))) (fun _ _ _ => False) ?own (fun _ _ _ _ _ hs _ _ => hs) ⟨HB3.out, HN3.out, HK3.out⟩ (fun _ _ _ => True) (fun _ _ _ _ _ _ h _ _ => h) ?assign ?body ?done ?stop
  case seq =>
    intro l J Jx W hW _ _ _ h0
    refine (callsIn_wide.2 (all1_nil _ _ _ W ((hW.block _ (blk_lt HO.out)).trans HO.out))).mono ?_
    rintro e w' ⟨hv, rfl⟩
    exact ⟨hv, .inl ⟨[], rfl, h0⟩⟩
  case own =>
    rintro s X Y row ⟨hb, h1, h2⟩ hg hr
    have hr' : ∀ r, row = some r → ∃ o : Obj, X.heap[r]? = some o ∧ o.isCells = false := fun r e => (hr r e).2
    have hsz := HB3.out.size
    exact ⟨hb.grown hg hb.size (fun k e => by have := (hr k e).1; omega), cells_own _ _ _ X Y row h1 hg hr', cells_own _ _ _ X Y row h2 hg hr'⟩
  case assign => intro l pre x; exact x.elim
  case body => intro l pre x; exact x.elim
  case stop => rintro D c pre W _ h; exact h.elim
  case done =>
    rintro D ys X hD rfl ⟨hb, h1, h2⟩ hK
    have q1 := blk_cell h1 0
    have q2 := blk_cell h2 0
    have HB := Aside0.mk hb
    have HKD := Aside0.mk hK
    clear hb h1 h2 hK
    gi_wp2
    refine (wpIn_wide (n := 3)).2 ?_
    go_wp2
    go_quiet (fail)
    all_goals gi_wp2
    have hk2 : (X.drewN nq).heap[D]? = some (.deferred (some [])) := ((pw_below_drewN (Below.refl _ _) nq).block D (blk_lt HKD.out)).trans HKD.out
    refine ⟨by simp, .inl ⟨_, _, rfl, run_takeDeferred hk2, ?_⟩⟩
    have hsz := HB3.out.size
    refine ⟨_, (by simp [results, Try.results31, go_sem]), rfl, ?_⟩
    exact (pw_below_drewN HB.out nq).grown (grownBy_putObj' _ D _) (pw_below_drewN HB.out nq).size (fun k e => by cases e; omega)
set_option maxHeartbeats 4000000 in
set_option maxRecDepth 100000 in
theorem snew (w : World) : Calls Try.prog 10 #[.int .i64 1] w fun e w' => (∃ g, e = .returned (.tuple #[.pointer (some ⟨g, 0, none⟩), .int .i64 0])) ∧ Below w.heap.size w w' := by
  have hany : (Try.prog.info? 84).any (fun i => i.zero.isSome && decide (i.bytes ≤ 100000)) = true := by kernel_rfl
  obtain ⟨i0, hi0, hp⟩ : ∃ i0, Try.prog.info? 84 = some i0 ∧ (i0.zero.isSome && decide (i0.bytes ≤ 100000)) = true := by
    cases h : Try.prog.info? 84 with
    | none => rw [h] at hany; simp at hany
    | some i0 => rw [h] at hany; exact ⟨i0, rfl, by simpa using hany⟩
  simp only [Bool.and_eq_true, decide_eq_true_eq] at hp
  obtain ⟨z0, hz0⟩ := Option.isSome_iff_exists.1 hp.1
  have hmk : ∀ W : World, (Instr.makeSlice 76 (.int .i64 1) (.int .i64 1)).run Try.prog W = .ok (.slice (some ⟨W.heap.size, 0, none⟩) 1 1) (W.alloc (.cells (madeCells z0.cells ((1 : Int).toNat * i0.size)) 84)) := fun W => run_make W 76 84 i0 z0 Try.underlying76 hi0 hz0 .i64 .i64 1 1 (by decide) (by decide) (by omega) (by decide)
  obtain ⟨O, hO⟩ : ∃ O, Obj.cells (madeCells z0.cells ((1 : Int).toNat * i0.size)) 84 = O := ⟨_, rfl⟩
  rw [hO] at hmk
  clear hany hi0 hp hz0 hO
  go_enter Try.func10, Try.ntmps10
  go_wp2
  refine bodyPost_ret (by simp [results, Try.results10, go_sem]; rfl) rfl ?_
  exact ⟨⟨_, rfl⟩, by repeat (first | exact Below.refl _ _ | apply below_alloc)⟩
set_option maxHeartbeats 32000000 in
set_option maxRecDepth 100000 in
theorem nil_calls (k : ByteArray) (s n q : Int) (w : World) :
    Calls Try.prog 9 #[.agg #[.string k, .int .u64 s, .int .i64 n], .int .i64 q] w fun e w' => e = .returned (.bool true) ∧ Below w.heap.size w w' := by
  have hz : Aside0 True := ⟨trivial⟩
  go_enter Try.func9, Try.ntmps9
  go_wp2_with fail
  obtain ⟨W0, hW0⟩ : ∃ W0, ((w.alloc (.cells #[.string k, .int .u64 s, .int .i64 n] 37)).alloc (.cells #[.slice none 0 0, .int .i64 0, .int .i64 0, .int .i64 0] 78)).alloc (.cells #[.pointer none, .pointer (some ⟨w.heap.size + 1, 0, none⟩)] 23) = W0 := ⟨_, rfl⟩
  have z2 := World.alloc_heap_new ((w.alloc (.cells #[.string k, .int .u64 s, .int .i64 n] 37)).alloc (.cells #[.slice none 0 0, .int .i64 0, .int .i64 0, .int .i64 0] 78)) (.cells #[.pointer none, .pointer (some ⟨w.heap.size + 1, 0, none⟩)] 23)
  have z1 := World.alloc_heap_new (w.alloc (.cells #[.string k, .int .u64 s, .int .i64 n] 37)) (.cells #[.slice none 0 0, .int .i64 0, .int .i64 0, .int .i64 0] 78)
  have z0 := World.alloc_heap_new w (.cells #[.string k, .int .u64 s, .int .i64 n] 37)
  rw [World.size_alloc, World.size_alloc, hW0] at z2
  rw [World.size_alloc] at z1
  have z1' : W0.heap[w.heap.size + 1]? = some (.cells #[.slice none 0 0, .int .i64 0, .int .i64 0, .int .i64 0] 78 (0, 0)) := by rw [← hW0]; exact (Below.heap_alloc _ _ _ (by rw [World.size_alloc, World.size_alloc]; omega)).trans z1
  have z0' : W0.heap[w.heap.size]? = some (.cells #[.string k, .int .u64 s, .int .i64 n] 37 (0, 0)) := by rw [← hW0]; exact (Below.heap_alloc _ _ _ (by rw [World.size_alloc, World.size_alloc]; omega)).trans ((Below.heap_alloc _ _ _ (by rw [World.size_alloc]; omega)).trans z0)
  have HBW := Aside0.mk (show Below w.heap.size w W0 by rw [← hW0]; exact below_alloc (below_alloc (below_alloc (Below.refl _ _) _) _) _)
  have E2 := Aside0.mk z2
  have E0 := Aside0.mk z0'
  have HN0 := Aside0.mk (show NobL W0 none from .inl rfl)
  have HN1 := Aside0.mk (show NobL W0 (some ⟨w.heap.size + 1, 0, none⟩) from .inr ⟨_, rfl, z1'⟩)
  have HB0 := Aside0.mk (Below.refl W0.heap.size W0)
  rw [hW0]
  clear hW0 z0 z1 z2 z0' z1' hz
  go_loopw [20] (fun v20 wr => ∃ (i : Nat), v20 = .int .i64 (i : Int) ∧ i ≤ 2 ∧ Aside0 (Below W0.heap.size W0 wr)) (fun v20 _ => 2 - (intOf v20).toNat)
  case atStart => exact ⟨0, rfl, by omega, HB0⟩
  case round =>
    obtain ⟨i, rfl, hi, HB⟩ := hrel
    have hrow := (HB.out.block _ (blk_lt E2.out)).trans E2.out
    have r0 := blk_cell hrow 0
    have r1 := blk_cell hrow 1
    have hrx := (HB.out.block _ (blk_lt E0.out)).trans E0.out
    have x0 := blk_cell hrx 0
    have x1 := blk_cell hrx 1
    have x2 := blk_cell hrx 2
    clear hrow hrx
    rcases (show i = 0 ∨ i = 1 ∨ i = 2 by omega) with rfl | rfl | rfl
    · skip
      go_wp2_with fail
      (with_reducible refine (lget none k s n _ (HN0.out.below HB.out)).mono ?_)
      rintro e w1 ⟨rfl, hb⟩
      have HB := Aside0.mk (below_step HB.out hb)
      clear hb
      clear x0 x1 x2
      have x0 := blk_cell ((HB.out.block _ (blk_lt E0.out)).trans E0.out) 0
      have x1 := blk_cell ((HB.out.block _ (blk_lt E0.out)).trans E0.out) 1
      have x2 := blk_cell ((HB.out.block _ (blk_lt E0.out)).trans E0.out) 2
      go_wp2_with fail
      (with_reducible refine (lnode none q _ (HN0.out.below HB.out)).mono ?_)
      rintro e wh ⟨rfl, hb⟩
      have HB := Aside0.mk (below_step HB.out hb)
      clear hb x0 x1 x2
      have HK := Aside0.mk (World.alloc_heap_new wh (.cells #[.string (⟨#[]⟩ : ByteArray), .int .u64 0, .int .i64 0] 37))
      have HB := Aside0.mk (below_alloc HB.out (.cells #[.string (⟨#[]⟩ : ByteArray), .int .u64 0, .int .i64 0] 37))
      have x0 := blk_cell ((HB.out.block _ (blk_lt E0.out)).trans E0.out) 0
      have x1 := blk_cell ((HB.out.block _ (blk_lt E0.out)).trans E0.out) 1
      have x2 := blk_cell ((HB.out.block _ (blk_lt E0.out)).trans E0.out) 2
      go_wp2_with fail
      (with_reducible refine (callsIn_wide.1 (gone_in none 1 _ (HN0.out.below HB.out))).mono ?_)
      rintro e w1 ⟨rfl, hb⟩
      have HB := Aside0.mk (below_step HB.out hb)
      have HK := Aside0.mk ((hb.block _ (blk_lt HK.out)).trans HK.out)
      clear hb
      clear x0 x1 x2
      have x0 := blk_cell ((HB.out.block _ (blk_lt E0.out)).trans E0.out) 0
      have x1 := blk_cell ((HB.out.block _ (blk_lt E0.out)).trans E0.out) 1
      have x2 := blk_cell ((HB.out.block _ (blk_lt E0.out)).trans E0.out) 2
      go_wp2_with fail
      (with_reducible refine (linsert none k s n 7 1 _ (HN0.out.below HB.out)).mono ?_)
      rintro e w1 ⟨rfl, hb⟩
      have HB := Aside0.mk (below_step HB.out hb)
      have HK := Aside0.mk ((hb.block _ (blk_lt HK.out)).trans HK.out)
      clear hb
      clear x0 x1 x2
      have x0 := blk_cell ((HB.out.block _ (blk_lt E0.out)).trans E0.out) 0
      have x1 := blk_cell ((HB.out.block _ (blk_lt E0.out)).trans E0.out) 1
      have x2 := blk_cell ((HB.out.block _ (blk_lt E0.out)).trans E0.out) 2
      have k0 := blk_cell HK.out 0
      have k1 := blk_cell HK.out 1
      have k2 := blk_cell HK.out 2
      go_wp2_with fail
      (with_reducible refine (llen none _ (HN0.out.below HB.out)).mono ?_)
      rintro e w1 ⟨rfl, hb⟩
      have HB := Aside0.mk (below_step HB.out hb)
      clear hb
      clear x0 x1 x2
      have x0 := blk_cell ((HB.out.block _ (blk_lt E0.out)).trans E0.out) 0
      have x1 := blk_cell ((HB.out.block _ (blk_lt E0.out)).trans E0.out) 1
      have x2 := blk_cell ((HB.out.block _ (blk_lt E0.out)).trans E0.out) 2
      clear k0 k1 k2
      go_wp2_with fail
      (with_reducible refine (lheight none _ (HN0.out.below HB.out)).mono ?_)
      rintro e w1 ⟨rfl, hb⟩
      have HB := Aside0.mk (below_step HB.out hb)
      clear hb
      clear x0 x1 x2
      have x0 := blk_cell ((HB.out.block _ (blk_lt E0.out)).trans E0.out) 0
      have x1 := blk_cell ((HB.out.block _ (blk_lt E0.out)).trans E0.out) 1
      have x2 := blk_cell ((HB.out.block _ (blk_lt E0.out)).trans E0.out) 2
      go_wp2_with fail
      (with_reducible refine (lseek none k s n _ (HN0.out.below HB.out)).mono ?_)
      rintro e w1 ⟨rfl, hb⟩
      have HB := Aside0.mk (below_step HB.out hb)
      clear hb
      clear x0 x1 x2
      have x0 := blk_cell ((HB.out.block _ (blk_lt E0.out)).trans E0.out) 0
      have x1 := blk_cell ((HB.out.block _ (blk_lt E0.out)).trans E0.out) 1
      have x2 := blk_cell ((HB.out.block _ (blk_lt E0.out)).trans E0.out) 2
      go_wp2_with fail
      (with_reducible refine (lbefore none k s n _ (HN0.out.below HB.out)).mono ?_)
      rintro e w1 ⟨rfl, hb⟩
      have HB := Aside0.mk (below_step HB.out hb)
      clear hb
      clear x0 x1 x2
      have x0 := blk_cell ((HB.out.block _ (blk_lt E0.out)).trans E0.out) 0
      have x1 := blk_cell ((HB.out.block _ (blk_lt E0.out)).trans E0.out) 1
      have x2 := blk_cell ((HB.out.block _ (blk_lt E0.out)).trans E0.out) 2
      go_wp2_with fail
      (with_reducible refine (lfirst none _ (HN0.out.below HB.out)).mono ?_)
      rintro e w1 ⟨rfl, hb⟩
      have HB := Aside0.mk (below_step HB.out hb)
      clear hb
      clear x0 x1 x2
      have x0 := blk_cell ((HB.out.block _ (blk_lt E0.out)).trans E0.out) 0
      have x1 := blk_cell ((HB.out.block _ (blk_lt E0.out)).trans E0.out) 1
      have x2 := blk_cell ((HB.out.block _ (blk_lt E0.out)).trans E0.out) 2
      go_wp2_with fail
      (with_reducible refine (llast none _ (HN0.out.below HB.out)).mono ?_)
      rintro e w1 ⟨rfl, hb⟩
      have HB := Aside0.mk (below_step HB.out hb)
      clear hb
      clear x0 x1 x2
      have x0 := blk_cell ((HB.out.block _ (blk_lt E0.out)).trans E0.out) 0
      have x1 := blk_cell ((HB.out.block _ (blk_lt E0.out)).trans E0.out) 1
      have x2 := blk_cell ((HB.out.block _ (blk_lt E0.out)).trans E0.out) 2
      go_wp2_with fail
      (with_reducible refine (lnext none q _ (HN0.out.below HB.out)).mono ?_)
      rintro e w1 ⟨rfl, hb⟩
      have HB := Aside0.mk (below_step HB.out hb)
      clear hb
      clear x0 x1 x2
      have x0 := blk_cell ((HB.out.block _ (blk_lt E0.out)).trans E0.out) 0
      have x1 := blk_cell ((HB.out.block _ (blk_lt E0.out)).trans E0.out) 1
      have x2 := blk_cell ((HB.out.block _ (blk_lt E0.out)).trans E0.out) 2
      go_wp2_with fail
      (with_reducible refine (lprev none q _ (HN0.out.below HB.out)).mono ?_)
      rintro e w1 ⟨rfl, hb⟩
      have HB := Aside0.mk (below_step HB.out hb)
      clear hb
      clear x0 x1 x2
      have x0 := blk_cell ((HB.out.block _ (blk_lt E0.out)).trans E0.out) 0
      have x1 := blk_cell ((HB.out.block _ (blk_lt E0.out)).trans E0.out) 1
      have x2 := blk_cell ((HB.out.block _ (blk_lt E0.out)).trans E0.out) 2
      go_wp2_with fail
      (with_reducible refine (llinks none q _ (HN0.out.below HB.out)).mono ?_)
      rintro e w1 ⟨rfl, hb⟩
      have HB := Aside0.mk (below_step HB.out hb)
      clear hb
      clear x0 x1 x2
      have x0 := blk_cell ((HB.out.block _ (blk_lt E0.out)).trans E0.out) 0
      have x1 := blk_cell ((HB.out.block _ (blk_lt E0.out)).trans E0.out) 1
      have x2 := blk_cell ((HB.out.block _ (blk_lt E0.out)).trans E0.out) 2
      go_wp2_with fail
      (with_reducible refine (ltrail none k s n _ (HN0.out.below HB.out)).mono ?_)
      rintro e w1 ⟨rfl, hb⟩
      have HB := Aside0.mk (below_step HB.out hb)
      clear hb
      clear x0 x1 x2
      have x0 := blk_cell ((HB.out.block _ (blk_lt E0.out)).trans E0.out) 0
      have x1 := blk_cell ((HB.out.block _ (blk_lt E0.out)).trans E0.out) 1
      have x2 := blk_cell ((HB.out.block _ (blk_lt E0.out)).trans E0.out) 2
      go_wp2
      go_roundw
      case rel => exact ⟨1, by trivial, by omega, HB⟩
      case measure => simp only [intOf]; omega
    · skip
      go_wp2_with fail
      (with_reducible refine (lget _ k s n _ (HN1.out.below HB.out)).mono ?_)
      rintro e w1 ⟨rfl, hb⟩
      have HB := Aside0.mk (below_step HB.out hb)
      clear hb
      clear x0 x1 x2
      have x0 := blk_cell ((HB.out.block _ (blk_lt E0.out)).trans E0.out) 0
      have x1 := blk_cell ((HB.out.block _ (blk_lt E0.out)).trans E0.out) 1
      have x2 := blk_cell ((HB.out.block _ (blk_lt E0.out)).trans E0.out) 2
      go_wp2_with fail
      (with_reducible refine (lnode _ q _ (HN1.out.below HB.out)).mono ?_)
      rintro e wh ⟨rfl, hb⟩
      have HB := Aside0.mk (below_step HB.out hb)
      clear hb x0 x1 x2
      have HK := Aside0.mk (World.alloc_heap_new wh (.cells #[.string (⟨#[]⟩ : ByteArray), .int .u64 0, .int .i64 0] 37))
      have HB := Aside0.mk (below_alloc HB.out (.cells #[.string (⟨#[]⟩ : ByteArray), .int .u64 0, .int .i64 0] 37))
      have x0 := blk_cell ((HB.out.block _ (blk_lt E0.out)).trans E0.out) 0
      have x1 := blk_cell ((HB.out.block _ (blk_lt E0.out)).trans E0.out) 1
      have x2 := blk_cell ((HB.out.block _ (blk_lt E0.out)).trans E0.out) 2
      go_wp2_with fail
      (with_reducible refine (callsIn_wide.1 (gone_in _ 1 _ (HN1.out.below HB.out))).mono ?_)
      rintro e w1 ⟨rfl, hb⟩
      have HB := Aside0.mk (below_step HB.out hb)
      have HK := Aside0.mk ((hb.block _ (blk_lt HK.out)).trans HK.out)
      clear hb
      clear x0 x1 x2
      have x0 := blk_cell ((HB.out.block _ (blk_lt E0.out)).trans E0.out) 0
      have x1 := blk_cell ((HB.out.block _ (blk_lt E0.out)).trans E0.out) 1
      have x2 := blk_cell ((HB.out.block _ (blk_lt E0.out)).trans E0.out) 2
      go_wp2_with fail
      (with_reducible refine (linsert _ k s n 7 1 _ (HN1.out.below HB.out)).mono ?_)
      rintro e w1 ⟨rfl, hb⟩
      have HB := Aside0.mk (below_step HB.out hb)
      have HK := Aside0.mk ((hb.block _ (blk_lt HK.out)).trans HK.out)
      clear hb
      clear x0 x1 x2
      have x0 := blk_cell ((HB.out.block _ (blk_lt E0.out)).trans E0.out) 0
      have x1 := blk_cell ((HB.out.block _ (blk_lt E0.out)).trans E0.out) 1
      have x2 := blk_cell ((HB.out.block _ (blk_lt E0.out)).trans E0.out) 2
      have k0 := blk_cell HK.out 0
      have k1 := blk_cell HK.out 1
      have k2 := blk_cell HK.out 2
      go_wp2_with fail
      (with_reducible refine (llen _ _ (HN1.out.below HB.out)).mono ?_)
      rintro e w1 ⟨rfl, hb⟩
      have HB := Aside0.mk (below_step HB.out hb)
      clear hb
      clear x0 x1 x2
      have x0 := blk_cell ((HB.out.block _ (blk_lt E0.out)).trans E0.out) 0
      have x1 := blk_cell ((HB.out.block _ (blk_lt E0.out)).trans E0.out) 1
      have x2 := blk_cell ((HB.out.block _ (blk_lt E0.out)).trans E0.out) 2
      clear k0 k1 k2
      go_wp2_with fail
      (with_reducible refine (lheight _ _ (HN1.out.below HB.out)).mono ?_)
      rintro e w1 ⟨rfl, hb⟩
      have HB := Aside0.mk (below_step HB.out hb)
      clear hb
      clear x0 x1 x2
      have x0 := blk_cell ((HB.out.block _ (blk_lt E0.out)).trans E0.out) 0
      have x1 := blk_cell ((HB.out.block _ (blk_lt E0.out)).trans E0.out) 1
      have x2 := blk_cell ((HB.out.block _ (blk_lt E0.out)).trans E0.out) 2
      go_wp2_with fail
      (with_reducible refine (lseek _ k s n _ (HN1.out.below HB.out)).mono ?_)
      rintro e w1 ⟨rfl, hb⟩
      have HB := Aside0.mk (below_step HB.out hb)
      clear hb
      clear x0 x1 x2
      have x0 := blk_cell ((HB.out.block _ (blk_lt E0.out)).trans E0.out) 0
      have x1 := blk_cell ((HB.out.block _ (blk_lt E0.out)).trans E0.out) 1
      have x2 := blk_cell ((HB.out.block _ (blk_lt E0.out)).trans E0.out) 2
      go_wp2_with fail
      (with_reducible refine (lbefore _ k s n _ (HN1.out.below HB.out)).mono ?_)
      rintro e w1 ⟨rfl, hb⟩
      have HB := Aside0.mk (below_step HB.out hb)
      clear hb
      clear x0 x1 x2
      have x0 := blk_cell ((HB.out.block _ (blk_lt E0.out)).trans E0.out) 0
      have x1 := blk_cell ((HB.out.block _ (blk_lt E0.out)).trans E0.out) 1
      have x2 := blk_cell ((HB.out.block _ (blk_lt E0.out)).trans E0.out) 2
      go_wp2_with fail
      (with_reducible refine (lfirst _ _ (HN1.out.below HB.out)).mono ?_)
      rintro e w1 ⟨rfl, hb⟩
      have HB := Aside0.mk (below_step HB.out hb)
      clear hb
      clear x0 x1 x2
      have x0 := blk_cell ((HB.out.block _ (blk_lt E0.out)).trans E0.out) 0
      have x1 := blk_cell ((HB.out.block _ (blk_lt E0.out)).trans E0.out) 1
      have x2 := blk_cell ((HB.out.block _ (blk_lt E0.out)).trans E0.out) 2
      go_wp2_with fail
      (with_reducible refine (llast _ _ (HN1.out.below HB.out)).mono ?_)
      rintro e w1 ⟨rfl, hb⟩
      have HB := Aside0.mk (below_step HB.out hb)
      clear hb
      clear x0 x1 x2
      have x0 := blk_cell ((HB.out.block _ (blk_lt E0.out)).trans E0.out) 0
      have x1 := blk_cell ((HB.out.block _ (blk_lt E0.out)).trans E0.out) 1
      have x2 := blk_cell ((HB.out.block _ (blk_lt E0.out)).trans E0.out) 2
      go_wp2_with fail
      (with_reducible refine (lnext _ q _ (HN1.out.below HB.out)).mono ?_)
      rintro e w1 ⟨rfl, hb⟩
      have HB := Aside0.mk (below_step HB.out hb)
      clear hb
      clear x0 x1 x2
      have x0 := blk_cell ((HB.out.block _ (blk_lt E0.out)).trans E0.out) 0
      have x1 := blk_cell ((HB.out.block _ (blk_lt E0.out)).trans E0.out) 1
      have x2 := blk_cell ((HB.out.block _ (blk_lt E0.out)).trans E0.out) 2
      go_wp2_with fail
      (with_reducible refine (lprev _ q _ (HN1.out.below HB.out)).mono ?_)
      rintro e w1 ⟨rfl, hb⟩
      have HB := Aside0.mk (below_step HB.out hb)
      clear hb
      clear x0 x1 x2
      have x0 := blk_cell ((HB.out.block _ (blk_lt E0.out)).trans E0.out) 0
      have x1 := blk_cell ((HB.out.block _ (blk_lt E0.out)).trans E0.out) 1
      have x2 := blk_cell ((HB.out.block _ (blk_lt E0.out)).trans E0.out) 2
      go_wp2_with fail
      (with_reducible refine (llinks _ q _ (HN1.out.below HB.out)).mono ?_)
      rintro e w1 ⟨rfl, hb⟩
      have HB := Aside0.mk (below_step HB.out hb)
      clear hb
      clear x0 x1 x2
      have x0 := blk_cell ((HB.out.block _ (blk_lt E0.out)).trans E0.out) 0
      have x1 := blk_cell ((HB.out.block _ (blk_lt E0.out)).trans E0.out) 1
      have x2 := blk_cell ((HB.out.block _ (blk_lt E0.out)).trans E0.out) 2
      go_wp2_with fail
      (with_reducible refine (ltrail _ k s n _ (HN1.out.below HB.out)).mono ?_)
      rintro e w1 ⟨rfl, hb⟩
      have HB := Aside0.mk (below_step HB.out hb)
      clear hb
      clear x0 x1 x2
      have x0 := blk_cell ((HB.out.block _ (blk_lt E0.out)).trans E0.out) 0
      have x1 := blk_cell ((HB.out.block _ (blk_lt E0.out)).trans E0.out) 1
      have x2 := blk_cell ((HB.out.block _ (blk_lt E0.out)).trans E0.out) 2
      go_wp2
      go_roundw
      case rel => exact ⟨2, by trivial, by omega, HB⟩
      case measure => simp only [intOf]; omega
    · go_wp2_with fail
      (with_reducible refine (snew _).mono ?_)
      rintro e w1 ⟨⟨g, rfl⟩, hb⟩
      have HB := Aside0.mk (below_step HB.out hb)
      clear hb
      go_wp2
      go_ret
      exact ⟨by simp, below_step HBW.out HB.out⟩
theorem open_k {w : World} {cs : Array Value} {k : ByteArray} {s n : Int} (h : (Kd.pair Kd.string (Kd.pair (Kd.int .u64) (Kd.int .i64))).K w (k, s, n) cs.toList) : cs = #[.string k, .int .u64 s, .int .i64 n] := by
  obtain ⟨d1, d2, e2, h1, ⟨f1, f2, e3, g1, g2⟩⟩ := h
  have e4 : d1 = [.string k] := h1
  have e5 : f1 = [.int .u64 s] := g1
  have e6 : f2 = [.int .i64 n] := g2
  subst e4 e5 e6
  subst e3
  apply Array.toList_inj.1
  simpa using e2
theorem SkipNil_upto (w : World) (cs0 : Array Value) (x0 : (ByteArray × Int × Int)) (hK0 : (Kd.pair Kd.string (Kd.pair (Kd.int .u64) (Kd.int .i64))).K w x0 cs0.toList) (hg0 : x0.1.size ≤ maxLen ∧ (Lit.int .u64 x0.2.1).wf = true ∧ (Lit.int .i64 x0.2.2).wf = true) (x1 : Int) (hg1 : (Lit.int .i64 x1).wf = true) (hbulk : 0 ≤ 1048576) :
    Calls Try.prog 9 #[.agg cs0, .int .i64 x1] w fun e w' => e = .returned (.bool true) ∧ Below w.heap.size w w' := by
  obtain ⟨k, s, n⟩ := x0
  have hcs := open_k hK0
  subst hcs
  exact nil_calls k s n x1 w

end Go.Proofs.Ytehfcafmdnfamaa.G
