/- Contracts typed by hand: the law CodecNobody: readers that no call gave -/
import Derived.Test.YtlfikdpcfoflfaaProg
import Derived.Below
import Derived.Deep.Draws
import Derived.Deep.AppendLies
import Derived.Maps.AppendAt
import Derived.OwnWalk
import Derived.Laws.BytesArg
import Derived.Laws.MakeOwn
import Derived.Laws.OwnMore
import Derived.Deep.OwnRows
import Derived.Tactics
import Derived.Lib.ConvBytes
import Derived.Laws.Slices
import Derived.WalkKit
import Derived.KernelRfl
import Derived.RowKit3
import Derived.Deep.LoopGhost
import Derived.Deep.QuietTactic
import Derived.BigQuiet
import Derived.WideLaws
import Derived.Deep.DeepCutAuto
import Derived.Deep.CutBlock
import Derived.Deep.RegionHeld3
import Derived.Laws.Rows
import Derived.Lib.AppendStr
import Derived.ArgAppend
import Derived.Laws.IdiomCopy
import Derived.OrdersHeld
import Derived.Laws.BitsLemmas
import Derived.RowKit
import Derived.Test.YtlfikdpcfoflfaaWWords
import Derived.Test.YtlfikdpcfoflfaaWLast
import Derived.Test.YtlfikdpcfoflfaaWTab
import Derived.Test.YtlfikdpcfoflfaaWFour
import Derived.Test.YtlfikdpcfoflfaaWQPut
import Derived.Test.YtlfikdpcfoflfaaWApart
import Derived.Test.YtlfikdpcfoflfaaWArr
import Derived.Test.YtlfikdpcfoflfaaWZeros
import Derived.Test.YtlfikdpcfoflfaaWFoot
import Derived.Test.YtlfikdpcfoflfaaWKept
import Derived.Test.YtlfikdpcfoflfaaWShare
import Derived.Test.YtlfikdpcfoflfaaWN
import Derived.Test.YtlfikdpcfoflfaaWFootNe
import Derived.Test.YtlfikdpcfoflfaaWAt
import Derived.Test.YtlfikdpcfoflfaaWEqStruct
import Derived.Test.YtlfikdpcfoflfaaWRepsOne
import Derived.Test.YtlfikdpcfoflfaaWInv
import Derived.Test.YtlfikdpcfoflfaaWInvWords
import Derived.Test.YtlfikdpcfoflfaaWGuard
import Derived.Test.YtlfikdpcfoflfaaWNEv
import Derived.Test.YtlfikdpcfoflfaaWMore
import Derived.RangeFuncRecord
namespace Go.Proofs.Ytlfikdpcfoflfaa.G
open Go.RowKit Go.Proofs.YtlfikdpcfoflfaaW.PrintWords Go.Proofs.YtlfikdpcfoflfaaW.PrintLast Go.Proofs.YtlfikdpcfoflfaaW.PrintMore
attribute [local go_sem] max2_int min2_int max_two min_two max_three min_three max_four min_four
set_option linter.unusedVariables false
set_option linter.unusedSimpArgs false

/-! the law CodecNobody: readers that no call gave -/
attribute [local go_sem] Oper.semAt_some
/-- nil, or a reader of noughts -/
def Nob (W : World) (p : Option Addr) : Prop := p = none ∨ ∃ B, p = some ⟨B, 0, none⟩ ∧ W.heap[B]? = some (.cells #[.slice none 0 0, .int .i64 0, .int .i64 0, .bool false] 59 (0, 0))
theorem Nob.below {W W' : World} {p : Option Addr} (h : Nob W p) (hb : Below W.heap.size W W') : Nob W' p := by
  rcases h with rfl | ⟨B, rfl, h⟩
  · exact .inl rfl
  · exact .inr ⟨B, rfl, (hb.block B (Array.getElem?_eq_some_iff.1 h).1).trans h⟩
set_option maxHeartbeats 2000000 in
theorem take_nobody (p : Option Addr) (f : Value) (w : World) (h : Nob w p) : Calls Try.prog 45 #[.pointer p, f] w fun e w' => (∃ v, e = .returned v) ∧ Below w.heap.size w w' := by
  have HB := Aside0.mk (Below.refl w.heap.size w)
  rcases h with rfl | ⟨B, rfl, h⟩
  · go_enter Try.func45, Try.ntmps45
    go_wp2
    refine bodyPost_ret (results_none rfl _ _ _) rfl ?_
    exact ⟨⟨_, rfl⟩, below_alloc HB.out _⟩
  · have hlt := (Array.getElem?_eq_some_iff.1 h).1
    have q0 : w.cell? ⟨B, 0, none⟩ = some (.slice none 0 0) := by simp [World.cell?, h]
    have q1 : w.cell? ⟨B, 1, none⟩ = some (.int .i64 0) := by simp [World.cell?, h]
    have q2 : w.cell? ⟨B, 2, none⟩ = some (.int .i64 0) := by simp [World.cell?, h]
    have q3 : w.cell? ⟨B, 3, none⟩ = some (.bool false) := by simp [World.cell?, h]
    clear h
    go_enter Try.func45, Try.ntmps45
    go_wp2
    refine bodyPost_ret (results_none rfl _ _ _) rfl ?_
    exact ⟨⟨_, rfl⟩, below_alloc HB.out _⟩
set_option maxHeartbeats 2000000 in
theorem at_nobody (p : Option Addr) (w : World) (h : Nob w p) : Calls Try.prog 39 #[.pointer p] w fun e w' => e = .returned (.int .i64 0) ∧ Below w.heap.size w w' := by
  have HB := Aside0.mk (Below.refl w.heap.size w)
  rcases h with rfl | ⟨B, rfl, h⟩
  · go_enter Try.func39, Try.ntmps39
    go_wp2
    go_ret
    exact ⟨rfl, HB.out⟩
  · have hlt := (Array.getElem?_eq_some_iff.1 h).1
    have q0 : w.cell? ⟨B, 0, none⟩ = some (.slice none 0 0) := by simp [World.cell?, h]
    have q1 : w.cell? ⟨B, 1, none⟩ = some (.int .i64 0) := by simp [World.cell?, h]
    have q2 : w.cell? ⟨B, 2, none⟩ = some (.int .i64 0) := by simp [World.cell?, h]
    have q3 : w.cell? ⟨B, 3, none⟩ = some (.bool false) := by simp [World.cell?, h]
    clear h
    go_enter Try.func39, Try.ntmps39
    go_wp2
    go_ret
    exact ⟨rfl, HB.out⟩
set_option maxHeartbeats 2000000 in
theorem err_nobody (p : Option Addr) (w : World) (h : Nob w p) : Calls Try.prog 40 #[.pointer p] w fun e w' => e = .returned (.int .i64 1) ∧ Below w.heap.size w w' := by
  have HB := Aside0.mk (Below.refl w.heap.size w)
  rcases h with rfl | ⟨B, rfl, h⟩
  · go_enter Try.func40, Try.ntmps40
    go_wp2
    go_ret
    exact ⟨rfl, HB.out⟩
  · have hlt := (Array.getElem?_eq_some_iff.1 h).1
    have q0 : w.cell? ⟨B, 0, none⟩ = some (.slice none 0 0) := by simp [World.cell?, h]
    have q1 : w.cell? ⟨B, 1, none⟩ = some (.int .i64 0) := by simp [World.cell?, h]
    have q2 : w.cell? ⟨B, 2, none⟩ = some (.int .i64 0) := by simp [World.cell?, h]
    have q3 : w.cell? ⟨B, 3, none⟩ = some (.bool false) := by simp [World.cell?, h]
    clear h
    go_enter Try.func40, Try.ntmps40
    go_wp2
    go_ret
    exact ⟨rfl, HB.out⟩
set_option maxHeartbeats 2000000 in
theorem left_nobody (p : Option Addr) (w : World) (h : Nob w p) : Calls Try.prog 38 #[.pointer p] w fun e w' => e = .returned (.int .i64 0) ∧ Below w.heap.size w w' := by
  have HB := Aside0.mk (Below.refl w.heap.size w)
  rcases h with rfl | ⟨B, rfl, h⟩
  · go_enter Try.func38, Try.ntmps38
    go_wp2
    go_ret
    exact ⟨rfl, HB.out⟩
  · have hlt := (Array.getElem?_eq_some_iff.1 h).1
    have q0 : w.cell? ⟨B, 0, none⟩ = some (.slice none 0 0) := by simp [World.cell?, h]
    have q1 : w.cell? ⟨B, 1, none⟩ = some (.int .i64 0) := by simp [World.cell?, h]
    have q2 : w.cell? ⟨B, 2, none⟩ = some (.int .i64 0) := by simp [World.cell?, h]
    have q3 : w.cell? ⟨B, 3, none⟩ = some (.bool false) := by simp [World.cell?, h]
    have q0' : w.drew.cell? ⟨B, 0, none⟩ = some (.slice none 0 0) := q0
    have q1' : w.drew.cell? ⟨B, 1, none⟩ = some (.int .i64 0) := q1
    clear h
    go_enter Try.func38, Try.ntmps38
    go_wp2
    go_region
    all_goals go_wp2
    all_goals go_ret
    all_goals exact ⟨by first | rfl | simp, (Below.refl _ _).drew⟩
theorem results_c1 {P : Program} {fn : Func} {p : Tmp} {ty : TypeId} (h : fn.results = #[.cell p ty]) (tmps : Array Value) (w : World) (g : Nat) (x : Value)
    (hp : tmps.getD p undef = .pointer (some ⟨g, 0, none⟩)) (hg : w.cell? ⟨g, 0, none⟩ = some x) (hu : (isAgg ty).run P w = .ok false w) :
    (results fn tmps).run P w = .ok x w := by
  have hp' : tmps[p]?.getD undef = .pointer (some ⟨g, 0, none⟩) := by simpa using hp
  simp [results, h, hp', asAddr, loadVar, hu, hg, go_sem]
set_option maxHeartbeats 2000000 in
theorem varint_nobody (p : Option Addr) (w : World) (h : Nob w p) : Calls Try.prog 33 #[.pointer p] w fun e w' => e = .returned (.int .u64 0) ∧ Below w.heap.size w w' := by
  obtain ⟨W0, hW0⟩ : ∃ W0, ((w.alloc (.cells #[.pointer p] 57)).alloc (.cells #[.int .u64 0] 22)) = W0 := ⟨_, rfl⟩
  have hb0 : Below w.heap.size w W0 := by rw [← hW0]; exact below_alloc (below_alloc (Below.refl _ _) _) _
  have HNB := Aside0.mk (h.below hb0)
  have HB0 := Aside0.mk hb0
  have hsz : W0.heap.size = w.heap.size + 2 := by rw [← hW0]; simp
  have HX := Aside0.mk (show W0.heap[w.heap.size + 1]? = some (.cells #[.int .u64 0] 22 (0, 0)) by
    have := World.alloc_heap_new (w.alloc (.cells #[.pointer p] 57)) (.cells #[.int .u64 0] 22)
    rw [← hW0]
    simpa using this)
  have c0 : W0.cell? ⟨w.heap.size, 0, none⟩ = some (.pointer p) := by
    have h1 := World.alloc_heap_new w (.cells #[.pointer p] 57)
    have h2 : W0.heap[w.heap.size]? = some (.cells #[.pointer p] 57 (0, 0)) := by
      rw [← hW0]
      exact (Below.heap_alloc _ _ _ (by simp <;> omega)).trans (h1)
    simp [World.cell?, h2]
  clear h hb0
  go_enter Try.func33, Try.ntmps33
  go_wp2_with fail
  (with_reducible refine (take_nobody p _ _ HNB.out).mono ?_)
  rintro e w1 ⟨⟨v, rfl⟩, hb⟩
  have hx := (hb.block _ (blk_lt HX.out)).trans HX.out
  have x0 := blk_cell hx 0
  have y0 := blk_frozen hx 0
  have HB1 := Aside0.mk (below_step HB0.out hb)
  have HX1 := Aside0.mk hx
  clear hb hx
  go_wp2
  refine bodyPost_ret (results_c1 rfl _ _ (w.heap.size + 1) (.int .u64 0) rfl (blk_cell (blk_put (cs := #[.int .u64 0]) HX1.out 0 _ rfl) 0) (by simp [isAgg, run_underlying Try.underlying22, go_sem])) rfl ?_
  exact ⟨rfl, below_set HB1.out (by omega)⟩
set_option maxHeartbeats 2000000 in
theorem number_nobody (p : Option Addr) (n : Int) (w : World) (h : Nob w p) : Calls Try.prog 34 #[.pointer p, .int .i64 n] w fun e w' => e = .returned (.int .i64 0) ∧ Below w.heap.size w w' := by
  obtain ⟨W0, hW0⟩ : ∃ W0, (((w.alloc (.cells #[.pointer p] 57)).alloc (.cells #[.int .i64 n] 3)).alloc (.cells #[.int .i64 0] 3)) = W0 := ⟨_, rfl⟩
  have hb0 : Below w.heap.size w W0 := by rw [← hW0]; exact below_alloc (below_alloc (below_alloc (Below.refl _ _) _) _) _
  have HNB := Aside0.mk (h.below hb0)
  have HB0 := Aside0.mk hb0
  have hsz : W0.heap.size = w.heap.size + 3 := by rw [← hW0]; simp
  have HX := Aside0.mk (show W0.heap[w.heap.size + 2]? = some (.cells #[.int .i64 0] 3 (0, 0)) by
    have := World.alloc_heap_new ((w.alloc (.cells #[.pointer p] 57)).alloc (.cells #[.int .i64 n] 3)) (.cells #[.int .i64 0] 3)
    rw [← hW0]
    simpa using this)
  have c0 : W0.cell? ⟨w.heap.size, 0, none⟩ = some (.pointer p) := by
    have h1 := World.alloc_heap_new w (.cells #[.pointer p] 57)
    have h2 : W0.heap[w.heap.size]? = some (.cells #[.pointer p] 57 (0, 0)) := by
      rw [← hW0]
      exact (Below.heap_alloc _ _ _ (by simp <;> omega)).trans ((Below.heap_alloc _ _ _ (by simp <;> omega)).trans (h1))
    simp [World.cell?, h2]
  clear h hb0
  go_enter Try.func34, Try.ntmps34
  go_wp2_with fail
  (with_reducible refine (take_nobody p _ _ HNB.out).mono ?_)
  rintro e w1 ⟨⟨v, rfl⟩, hb⟩
  have hx := (hb.block _ (blk_lt HX.out)).trans HX.out
  have x0 := blk_cell hx 0
  have y0 := blk_frozen hx 0
  have HB1 := Aside0.mk (below_step HB0.out hb)
  have HX1 := Aside0.mk hx
  clear hb hx
  go_wp2
  refine bodyPost_ret (results_c1 rfl _ _ (w.heap.size + 2) (.int .i64 0) rfl (blk_cell (blk_put (cs := #[.int .i64 0]) HX1.out 0 _ rfl) 0) (by simp [isAgg, run_underlying Try.underlying3, go_sem])) rfl ?_
  exact ⟨rfl, below_set HB1.out (by omega)⟩
set_option maxHeartbeats 2000000 in
theorem fixed_nobody (p : Option Addr) (n : Int) (w : World) (h : Nob w p) : Calls Try.prog 50 #[.pointer p, .int .i64 n] w fun e w' => e = .returned (.int .u64 0) ∧ Below w.heap.size w w' := by
  obtain ⟨W0, hW0⟩ : ∃ W0, (((w.alloc (.cells #[.pointer p] 57)).alloc (.cells #[.int .i64 n] 3)).alloc (.cells #[.int .u64 0] 22)) = W0 := ⟨_, rfl⟩
  have hb0 : Below w.heap.size w W0 := by rw [← hW0]; exact below_alloc (below_alloc (below_alloc (Below.refl _ _) _) _) _
  have HNB := Aside0.mk (h.below hb0)
  have HB0 := Aside0.mk hb0
  have hsz : W0.heap.size = w.heap.size + 3 := by rw [← hW0]; simp
  have HX := Aside0.mk (show W0.heap[w.heap.size + 2]? = some (.cells #[.int .u64 0] 22 (0, 0)) by
    have := World.alloc_heap_new ((w.alloc (.cells #[.pointer p] 57)).alloc (.cells #[.int .i64 n] 3)) (.cells #[.int .u64 0] 22)
    rw [← hW0]
    simpa using this)
  have c0 : W0.cell? ⟨w.heap.size, 0, none⟩ = some (.pointer p) := by
    have h1 := World.alloc_heap_new w (.cells #[.pointer p] 57)
    have h2 : W0.heap[w.heap.size]? = some (.cells #[.pointer p] 57 (0, 0)) := by
      rw [← hW0]
      exact (Below.heap_alloc _ _ _ (by simp <;> omega)).trans ((Below.heap_alloc _ _ _ (by simp <;> omega)).trans (h1))
    simp [World.cell?, h2]
  clear h hb0
  go_enter Try.func50, Try.ntmps50
  go_wp2_with fail
  (with_reducible refine (take_nobody p _ _ HNB.out).mono ?_)
  rintro e w1 ⟨⟨v, rfl⟩, hb⟩
  have hx := (hb.block _ (blk_lt HX.out)).trans HX.out
  have x0 := blk_cell hx 0
  have y0 := blk_frozen hx 0
  have HB1 := Aside0.mk (below_step HB0.out hb)
  have HX1 := Aside0.mk hx
  clear hb hx
  go_wp2
  refine bodyPost_ret (results_c1 rfl _ _ (w.heap.size + 2) (.int .u64 0) rfl (blk_cell (blk_put (cs := #[.int .u64 0]) HX1.out 0 _ rfl) 0) (by simp [isAgg, run_underlying Try.underlying22, go_sem])) rfl ?_
  exact ⟨rfl, below_set HB1.out (by omega)⟩
set_option maxHeartbeats 2000000 in
theorem text_nobody (p : Option Addr) (n : Int) (w : World) (h : Nob w p) : Calls Try.prog 37 #[.pointer p, .int .i64 n] w fun e w' => e = .returned (.string (⟨#[]⟩ : ByteArray)) ∧ Below w.heap.size w w' := by
  obtain ⟨W0, hW0⟩ : ∃ W0, (((w.alloc (.cells #[.pointer p] 57)).alloc (.cells #[.int .i64 n] 3)).alloc (.cells #[.string (⟨#[]⟩ : ByteArray)] 9)) = W0 := ⟨_, rfl⟩
  have hb0 : Below w.heap.size w W0 := by rw [← hW0]; exact below_alloc (below_alloc (below_alloc (Below.refl _ _) _) _) _
  have HNB := Aside0.mk (h.below hb0)
  have HB0 := Aside0.mk hb0
  have hsz : W0.heap.size = w.heap.size + 3 := by rw [← hW0]; simp
  have HX := Aside0.mk (show W0.heap[w.heap.size + 2]? = some (.cells #[.string (⟨#[]⟩ : ByteArray)] 9 (0, 0)) by
    have := World.alloc_heap_new ((w.alloc (.cells #[.pointer p] 57)).alloc (.cells #[.int .i64 n] 3)) (.cells #[.string (⟨#[]⟩ : ByteArray)] 9)
    rw [← hW0]
    simpa using this)
  have c0 : W0.cell? ⟨w.heap.size, 0, none⟩ = some (.pointer p) := by
    have h1 := World.alloc_heap_new w (.cells #[.pointer p] 57)
    have h2 : W0.heap[w.heap.size]? = some (.cells #[.pointer p] 57 (0, 0)) := by
      rw [← hW0]
      exact (Below.heap_alloc _ _ _ (by simp <;> omega)).trans ((Below.heap_alloc _ _ _ (by simp <;> omega)).trans (h1))
    simp [World.cell?, h2]
  clear h hb0
  go_enter Try.func37, Try.ntmps37
  go_wp2_with fail
  (with_reducible refine (take_nobody p _ _ HNB.out).mono ?_)
  rintro e w1 ⟨⟨v, rfl⟩, hb⟩
  have hx := (hb.block _ (blk_lt HX.out)).trans HX.out
  have x0 := blk_cell hx 0
  have y0 := blk_frozen hx 0
  have HB1 := Aside0.mk (below_step HB0.out hb)
  have HX1 := Aside0.mk hx
  clear hb hx
  go_wp2
  refine bodyPost_ret (results_c1 rfl _ _ (w.heap.size + 2) (.string (⟨#[]⟩ : ByteArray)) rfl (blk_cell (blk_put (cs := #[.string (⟨#[]⟩ : ByteArray)]) HX1.out 0 _ rfl) 0) (by simp [isAgg, run_underlying Try.underlying9, go_sem])) rfl ?_
  exact ⟨rfl, below_set HB1.out (by omega)⟩
set_option maxHeartbeats 2000000 in
theorem fixed32_nobody (p : Option Addr) (w : World) (h : Nob w p) : Calls Try.prog 35 #[.pointer p] w fun e w' => e = .returned (.int .u32 0) ∧ Below w.heap.size w w' := by
  have H := Aside0.mk h
  clear h
  go_enter Try.func35, Try.ntmps35
  go_wp2_with fail
  (with_reducible refine (fixed_nobody p _ _ H.out).mono ?_)
  rintro e w1 ⟨rfl, hb⟩
  have HB := Aside0.mk hb
  clear hb
  go_wp2
  go_ret
  exact ⟨by first | rfl | simp, HB.out⟩
set_option maxHeartbeats 2000000 in
theorem fixed64_nobody (p : Option Addr) (w : World) (h : Nob w p) : Calls Try.prog 36 #[.pointer p] w fun e w' => e = .returned (.int .u64 0) ∧ Below w.heap.size w w' := by
  have H := Aside0.mk h
  clear h
  go_enter Try.func36, Try.ntmps36
  go_wp2_with fail
  (with_reducible refine (fixed_nobody p _ _ H.out).mono ?_)
  rintro e w1 ⟨rfl, hb⟩
  have HB := Aside0.mk hb
  clear hb
  go_wp2
  go_ret
  exact ⟨by first | rfl | simp, HB.out⟩
set_option maxHeartbeats 8000000 in
set_option maxRecDepth 100000 in
theorem CodecNobody_calls (a0 : Int) (w : World) :
    Calls Try.prog 9 #[.int .i64 a0] w fun e w' => e = .returned (.bool true) ∧ Below w.heap.size w w' := by
  have hz : Aside0 True := ⟨trivial⟩
  go_enter Try.func9, Try.ntmps9
  go_wp2_with fail
  obtain ⟨W0, hW0⟩ : ∃ W0, (w.alloc (.cells #[.slice none 0 0, .int .i64 0, .int .i64 0, .bool false] 59)).alloc (.cells #[.pointer none, .pointer (some ⟨w.heap.size, 0, none⟩)] 57) = W0 := ⟨_, rfl⟩
  have e1 : W0.heap[w.heap.size + 1]? = some (.cells #[.pointer none, .pointer (some ⟨w.heap.size, 0, none⟩)] 57 (0, 0)) := by
    have := World.alloc_heap_new (w.alloc (.cells #[.slice none 0 0, .int .i64 0, .int .i64 0, .bool false] 59)) (.cells #[.pointer none, .pointer (some ⟨w.heap.size, 0, none⟩)] 57)
    rw [World.size_alloc] at this
    rw [← hW0]; exact this
  have e0 : W0.heap[w.heap.size]? = some (.cells #[.slice none 0 0, .int .i64 0, .int .i64 0, .bool false] 59 (0, 0)) := by
    have := World.alloc_heap_new w (.cells #[.slice none 0 0, .int .i64 0, .int .i64 0, .bool false] 59)
    rw [← hW0]; exact (Below.heap_alloc _ _ _ (by rw [World.size_alloc]; omega)).trans this
  have HBW := Aside0.mk (show Below w.heap.size w W0 by rw [← hW0]; exact below_alloc (below_alloc (Below.refl _ _) _) _)
  have E1 := Aside0.mk e1
  have HN0 := Aside0.mk (show Nob W0 none from .inl rfl)
  have HN1 := Aside0.mk (show Nob W0 (some ⟨w.heap.size, 0, none⟩) from .inr ⟨_, rfl, e0⟩)
  have HB0 := Aside0.mk (Below.refl W0.heap.size W0)
  rw [hW0]
  clear hW0 e0 e1 hz
  go_loopw [9] (fun v9 wr => ∃ (i : Nat), v9 = .int .i64 (i : Int) ∧ i ≤ 2 ∧ Aside0 (Below W0.heap.size W0 wr)) (fun v9 _ => 2 - (intOf v9).toNat)
  case atStart => exact ⟨0, rfl, by omega, HB0⟩
  case round =>
    obtain ⟨i, rfl, hi, HB⟩ := hrel
    have hrow := (HB.out.block _ (blk_lt E1.out)).trans E1.out
    have r0 := blk_cell hrow 0
    have r1 := blk_cell hrow 1
    clear hrow
    rcases (show i = 0 ∨ i = 1 ∨ i = 2 by omega) with rfl | rfl | rfl
    · skip
      go_wp2_with fail
      (with_reducible refine (varint_nobody none _ (HN0.out.below HB.out)).mono ?_)
      rintro e w1 ⟨rfl, hb⟩
      have HB := Aside0.mk (below_step HB.out hb)
      clear hb
      go_wp2_with fail
      (with_reducible refine (number_nobody none a0 _ (HN0.out.below HB.out)).mono ?_)
      rintro e w1 ⟨rfl, hb⟩
      have HB := Aside0.mk (below_step HB.out hb)
      clear hb
      go_wp2_with fail
      (with_reducible refine (fixed32_nobody none _ (HN0.out.below HB.out)).mono ?_)
      rintro e w1 ⟨rfl, hb⟩
      have HB := Aside0.mk (below_step HB.out hb)
      clear hb
      go_wp2_with fail
      (with_reducible refine (fixed64_nobody none _ (HN0.out.below HB.out)).mono ?_)
      rintro e w1 ⟨rfl, hb⟩
      have HB := Aside0.mk (below_step HB.out hb)
      clear hb
      go_wp2_with fail
      (with_reducible refine (text_nobody none a0 _ (HN0.out.below HB.out)).mono ?_)
      rintro e w1 ⟨rfl, hb⟩
      have HB := Aside0.mk (below_step HB.out hb)
      clear hb
      go_wp2_with fail
      (with_reducible refine (left_nobody none _ (HN0.out.below HB.out)).mono ?_)
      rintro e w1 ⟨rfl, hb⟩
      have HB := Aside0.mk (below_step HB.out hb)
      clear hb
      go_wp2_with fail
      (with_reducible refine (at_nobody none _ (HN0.out.below HB.out)).mono ?_)
      rintro e w1 ⟨rfl, hb⟩
      have HB := Aside0.mk (below_step HB.out hb)
      clear hb
      go_wp2_with fail
      (with_reducible refine (err_nobody none _ (HN0.out.below HB.out)).mono ?_)
      rintro e w1 ⟨rfl, hb⟩
      have HB := Aside0.mk (below_step HB.out hb)
      clear hb
      go_wp2
      go_roundw
      case rel => exact ⟨1, by trivial, by omega, HB⟩
      case measure => simp only [intOf]; omega
    · skip
      go_wp2_with fail
      (with_reducible refine (varint_nobody _ _ (HN1.out.below HB.out)).mono ?_)
      rintro e w1 ⟨rfl, hb⟩
      have HB := Aside0.mk (below_step HB.out hb)
      clear hb
      go_wp2_with fail
      (with_reducible refine (number_nobody _ a0 _ (HN1.out.below HB.out)).mono ?_)
      rintro e w1 ⟨rfl, hb⟩
      have HB := Aside0.mk (below_step HB.out hb)
      clear hb
      go_wp2_with fail
      (with_reducible refine (fixed32_nobody _ _ (HN1.out.below HB.out)).mono ?_)
      rintro e w1 ⟨rfl, hb⟩
      have HB := Aside0.mk (below_step HB.out hb)
      clear hb
      go_wp2_with fail
      (with_reducible refine (fixed64_nobody _ _ (HN1.out.below HB.out)).mono ?_)
      rintro e w1 ⟨rfl, hb⟩
      have HB := Aside0.mk (below_step HB.out hb)
      clear hb
      go_wp2_with fail
      (with_reducible refine (text_nobody _ a0 _ (HN1.out.below HB.out)).mono ?_)
      rintro e w1 ⟨rfl, hb⟩
      have HB := Aside0.mk (below_step HB.out hb)
      clear hb
      go_wp2_with fail
      (with_reducible refine (left_nobody _ _ (HN1.out.below HB.out)).mono ?_)
      rintro e w1 ⟨rfl, hb⟩
      have HB := Aside0.mk (below_step HB.out hb)
      clear hb
      go_wp2_with fail
      (with_reducible refine (at_nobody _ _ (HN1.out.below HB.out)).mono ?_)
      rintro e w1 ⟨rfl, hb⟩
      have HB := Aside0.mk (below_step HB.out hb)
      clear hb
      go_wp2_with fail
      (with_reducible refine (err_nobody _ _ (HN1.out.below HB.out)).mono ?_)
      rintro e w1 ⟨rfl, hb⟩
      have HB := Aside0.mk (below_step HB.out hb)
      clear hb
      go_wp2
      go_roundw
      case rel => exact ⟨2, by trivial, by omega, HB⟩
      case measure => simp only [intOf]; omega
    · go_wp2
      go_ret
      exact ⟨rfl, below_step HBW.out HB.out⟩
theorem CodecNobody_upto (w : World) (a0 : Int) (hg0 : (Lit.int .i64 a0).wf = true) (hbulk : 1 ≤ 1048576) :
    Calls Try.prog 9 #[.int .i64 a0] w fun e w' => e = .returned (.bool true) ∧ Below w.heap.size w w' := CodecNobody_calls a0 w

end Go.Proofs.Ytlfikdpcfoflfaa.G
