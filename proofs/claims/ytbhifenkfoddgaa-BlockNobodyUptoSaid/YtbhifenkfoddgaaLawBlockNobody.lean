/- Contracts typed by hand: the law BlockNobody: builders and cursors that no call gave -/
import Derived.Test.YtbhifenkfoddgaaProg
import Derived.Below
import Derived.Deep.Draws
import Derived.Deep.AppendLies
import Derived.Maps.AppendAt
import Derived.OwnWalk
import Derived.Laws.BytesArg
import Derived.Laws.MakeOwn
import Derived.Laws.OwnMore
import Derived.Deep.OwnRows
import Derived.Tactics
import Derived.Lib.ConvBytes
import Derived.Laws.Slices
import Derived.WalkKit
import Derived.KernelRfl
import Derived.RowKit3
import Derived.Deep.LoopGhost
import Derived.Deep.QuietTactic
import Derived.BigQuiet
import Derived.WideLaws
import Derived.Deep.DeepCutAuto
import Derived.Deep.CutBlock
import Derived.Deep.RegionHeld3
import Derived.Laws.Rows
import Derived.Lib.AppendStr
import Derived.ArgAppend
import Derived.Laws.IdiomCopy
import Derived.OrdersHeld
import Derived.Laws.BitsLemmas
import Derived.RowKit
import Derived.Test.YtbhifenkfoddgaaWWords
import Derived.Test.YtbhifenkfoddgaaWLast
import Derived.Test.YtbhifenkfoddgaaWTab
import Derived.Test.YtbhifenkfoddgaaWFour
import Derived.Test.YtbhifenkfoddgaaWQPut
import Derived.Test.YtbhifenkfoddgaaWApart
import Derived.Test.YtbhifenkfoddgaaWArr
import Derived.Test.YtbhifenkfoddgaaWZeros
import Derived.Test.YtbhifenkfoddgaaWFoot
import Derived.Test.YtbhifenkfoddgaaWKept
import Derived.Test.YtbhifenkfoddgaaWShare
import Derived.Test.YtbhifenkfoddgaaWN
import Derived.Test.YtbhifenkfoddgaaWFootNe
import Derived.Test.YtbhifenkfoddgaaWAt
import Derived.Test.YtbhifenkfoddgaaWEqStruct
import Derived.Test.YtbhifenkfoddgaaWRepsOne
import Derived.Test.YtbhifenkfoddgaaWInv
import Derived.Test.YtbhifenkfoddgaaWInvWords
import Derived.Test.YtbhifenkfoddgaaWGuard
import Derived.Test.YtbhifenkfoddgaaWNEv
import Derived.Test.YtbhifenkfoddgaaWMore
import Derived.RangeFuncRecord
import Derived.Deep.RegionWith
namespace Go.Proofs.Ytbhifenkfoddgaa.G
open Go.RowKit Go.Proofs.YtbhifenkfoddgaaW.PrintWords Go.Proofs.YtbhifenkfoddgaaW.PrintLast Go.Proofs.YtbhifenkfoddgaaW.PrintMore
attribute [local go_sem] max2_int min2_int max_two min_two max_three min_three max_four min_four
set_option linter.unusedVariables false
set_option linter.unusedSimpArgs false

/-! the law BlockNobody: builders and cursors that no call gave -/
attribute [local go_sem] Oper.semAt_some
/-- nil, or a builder of noughts; nil, or a cursor of noughts -/
def NobB (W : World) (p : Option Addr) : Prop := p = none ∨ ∃ B, p = some ⟨B, 0, none⟩ ∧ W.heap[B]? = some (.cells #[.int .i64 0, .int .i64 0, .int .i64 0, .string (⟨#[]⟩ : ByteArray), .int .u64 0, .int .i64 0, .slice none 0 0, .slice none 0 0, .slice none 0 0] 45 (0, 0))
def NobC (W : World) (p : Option Addr) : Prop := p = none ∨ ∃ B, p = some ⟨B, 0, none⟩ ∧ W.heap[B]? = some (.cells #[.slice none 0 0, .int .i64 0, .bool false] 50 (0, 0))
theorem NobB.below {W W' : World} {p : Option Addr} (h : NobB W p) (hb : Below W.heap.size W W') : NobB W' p := by
  rcases h with rfl | ⟨B, rfl, h⟩
  · exact .inl rfl
  · exact .inr ⟨B, rfl, (hb.block B (Array.getElem?_eq_some_iff.1 h).1).trans h⟩
theorem NobC.below {W W' : World} {p : Option Addr} (h : NobC W p) (hb : Below W.heap.size W W') : NobC W' p := by
  rcases h with rfl | ⟨B, rfl, h⟩
  · exact .inl rfl
  · exact .inr ⟨B, rfl, (hb.block B (Array.getElem?_eq_some_iff.1 h).1).trans h⟩
set_option maxHeartbeats 2000000 in
theorem bnone (p : Option Addr) (w : World) (h : NobB w p) : Calls Try.prog 34 #[.pointer p] w fun e w' => e = .returned (.bool true) ∧ Below w.heap.size w w' := by
  rcases h with rfl | ⟨B, rfl, h⟩
  · go_enter Try.func34, Try.ntmps34
    go_wp2
    go_ret
    exact ⟨rfl, Below.refl _ _⟩
  · have q : w.cell? ⟨B, 0, none⟩ = some (.int .i64 0) := by simp [World.cell?, h]
    clear h
    go_enter Try.func34, Try.ntmps34
    go_wp2
    go_ret
    exact ⟨rfl, Below.refl _ _⟩
set_option maxHeartbeats 2000000 in
theorem cnone (p : Option Addr) (w : World) (h : NobC w p) : Calls Try.prog 43 #[.pointer p] w fun e w' => e = .returned (.bool true) ∧ Below w.heap.size w w' := by
  rcases h with rfl | ⟨B, rfl, h⟩
  · go_enter Try.func43, Try.ntmps43
    go_wp2
    go_ret
    exact ⟨rfl, Below.refl _ _⟩
  · have q : w.cell? ⟨B, 2, none⟩ = some (.bool false) := by simp [World.cell?, h]
    clear h
    go_enter Try.func43, Try.ntmps43
    go_wp2
    go_ret
    exact ⟨rfl, Below.refl _ _⟩
set_option maxHeartbeats 2000000 in
theorem badd (p : Option Addr) (k : ByteArray) (s n : Int) (v : ByteArray) (w : World) (h : NobB w p) : Calls Try.prog 18 #[.pointer p, .agg #[.string k, .int .u64 s, .int .i64 n], .string v] w fun e w' => e = .returned (.int .i64 1) ∧ Below w.heap.size w w' := by
  have HB0 := Aside0.mk (below_alloc (Below.refl w.heap.size w) (.cells #[.string k, .int .u64 s, .int .i64 n] 28))
  have H := Aside0.mk (h.below HB0.out)
  have HX := Aside0.mk (World.alloc_heap_new w (.cells #[.string k, .int .u64 s, .int .i64 n] 28))
  clear h
  go_enter Try.func18, Try.ntmps18
  go_wp2_with fail
  (with_reducible refine (bnone p _ H.out).mono ?_)
  rintro e w1 ⟨rfl, hb⟩
  have hx := (hb.block _ (blk_lt HX.out)).trans HX.out
  have x0 := blk_cell hx 0
  have x1 := blk_cell hx 1
  have x2 := blk_cell hx 2
  have y0 := blk_frozen hx 0
  have y1 := blk_frozen hx 1
  have y2 := blk_frozen hx 2
  have HX1 := Aside0.mk hx
  have HB := Aside0.mk (below_step HB0.out hb)
  clear hb hx
  go_wp2
  go_ret
  exact ⟨rfl, HB.out⟩
set_option maxHeartbeats 2000000 in
theorem blen (p : Option Addr) (w : World) (h : NobB w p) : Calls Try.prog 14 #[.pointer p] w fun e w' => e = .returned (.int .i64 0) ∧ Below w.heap.size w w' := by
  have H := Aside0.mk h
  clear h
  go_enter Try.func14, Try.ntmps14
  go_wp2_with fail
  (with_reducible refine (bnone p _ H.out).mono ?_)
  rintro e w1 ⟨rfl, hb⟩
  have HB := Aside0.mk hb
  clear hb
  go_wp2
  go_ret
  exact ⟨rfl, HB.out⟩
set_option maxHeartbeats 2000000 in
theorem bsize (p : Option Addr) (w : World) (h : NobB w p) : Calls Try.prog 15 #[.pointer p] w fun e w' => e = .returned (.int .i64 0) ∧ Below w.heap.size w w' := by
  have H := Aside0.mk h
  clear h
  go_enter Try.func15, Try.ntmps15
  go_wp2_with fail
  (with_reducible refine (bnone p _ H.out).mono ?_)
  rintro e w1 ⟨rfl, hb⟩
  have HB := Aside0.mk hb
  clear hb
  go_wp2
  go_ret
  exact ⟨rfl, HB.out⟩
set_option maxHeartbeats 2000000 in
theorem bbytes (p : Option Addr) (w : World) (h : NobB w p) : Calls Try.prog 13 #[.pointer p] w fun e w' => e = .returned (.slice none 0 0) ∧ Below w.heap.size w w' := by
  have H := Aside0.mk h
  clear h
  go_enter Try.func13, Try.ntmps13
  go_wp2_with fail
  (with_reducible refine (bnone p _ H.out).mono ?_)
  rintro e w1 ⟨rfl, hb⟩
  have HB := Aside0.mk hb
  clear hb
  go_wp2
  go_ret
  exact ⟨rfl, HB.out⟩
set_option maxHeartbeats 2000000 in
theorem clen (p : Option Addr) (w : World) (h : NobC w p) : Calls Try.prog 20 #[.pointer p] w fun e w' => e = .returned (.int .i64 0) ∧ Below w.heap.size w w' := by
  have H := Aside0.mk h
  clear h
  go_enter Try.func20, Try.ntmps20
  go_wp2_with fail
  (with_reducible refine (cnone p _ H.out).mono ?_)
  rintro e w1 ⟨rfl, hb⟩
  have HB := Aside0.mk hb
  clear hb
  go_wp2
  go_ret
  exact ⟨rfl, HB.out⟩
set_option maxHeartbeats 2000000 in
theorem cfirst (p : Option Addr) (w : World) (h : NobC w p) : Calls Try.prog 21 #[.pointer p] w fun e w' => e = .returned (.bool false) ∧ Below w.heap.size w w' := by
  have H := Aside0.mk h
  clear h
  go_enter Try.func21, Try.ntmps21
  go_wp2_with fail
  (with_reducible refine (cnone p _ H.out).mono ?_)
  rintro e w1 ⟨rfl, hb⟩
  have HB := Aside0.mk hb
  clear hb
  go_wp2
  go_ret
  exact ⟨rfl, HB.out⟩
set_option maxHeartbeats 2000000 in
theorem clast (p : Option Addr) (w : World) (h : NobC w p) : Calls Try.prog 22 #[.pointer p] w fun e w' => e = .returned (.bool false) ∧ Below w.heap.size w w' := by
  have H := Aside0.mk h
  clear h
  go_enter Try.func22, Try.ntmps22
  go_wp2_with fail
  (with_reducible refine (cnone p _ H.out).mono ?_)
  rintro e w1 ⟨rfl, hb⟩
  have HB := Aside0.mk hb
  clear hb
  go_wp2
  go_ret
  exact ⟨rfl, HB.out⟩
set_option maxHeartbeats 2000000 in
theorem cseek (p : Option Addr) (k : ByteArray) (s n : Int) (w : World) (h : NobC w p) : Calls Try.prog 23 #[.pointer p, .agg #[.string k, .int .u64 s, .int .i64 n]] w fun e w' => e = .returned (.bool false) ∧ Below w.heap.size w w' := by
  have HB0 := Aside0.mk (below_alloc (Below.refl w.heap.size w) (.cells #[.string k, .int .u64 s, .int .i64 n] 28))
  have H := Aside0.mk (h.below HB0.out)
  have HX := Aside0.mk (World.alloc_heap_new w (.cells #[.string k, .int .u64 s, .int .i64 n] 28))
  clear h
  go_enter Try.func23, Try.ntmps23
  go_wp2_with fail
  (with_reducible refine (cnone p _ H.out).mono ?_)
  rintro e w1 ⟨rfl, hb⟩
  have hx := (hb.block _ (blk_lt HX.out)).trans HX.out
  have x0 := blk_cell hx 0
  have x1 := blk_cell hx 1
  have x2 := blk_cell hx 2
  have y0 := blk_frozen hx 0
  have y1 := blk_frozen hx 1
  have y2 := blk_frozen hx 2
  have HX1 := Aside0.mk hx
  have HB := Aside0.mk (below_step HB0.out hb)
  clear hb hx
  go_wp2
  go_ret
  exact ⟨rfl, HB.out⟩
set_option maxHeartbeats 2000000 in
theorem cnext (p : Option Addr) (w : World) (h : NobC w p) : Calls Try.prog 24 #[.pointer p] w fun e w' => e = .returned (.bool false) ∧ Below w.heap.size w w' := by
  have H := Aside0.mk h
  clear h
  go_enter Try.func24, Try.ntmps24
  go_wp2_with fail
  (with_reducible refine (cnone p _ H.out).mono ?_)
  rintro e w1 ⟨rfl, hb⟩
  have HB := Aside0.mk hb
  clear hb
  go_wp2
  go_ret
  exact ⟨rfl, HB.out⟩
set_option maxHeartbeats 2000000 in
theorem cprev (p : Option Addr) (w : World) (h : NobC w p) : Calls Try.prog 25 #[.pointer p] w fun e w' => e = .returned (.bool false) ∧ Below w.heap.size w w' := by
  have H := Aside0.mk h
  clear h
  go_enter Try.func25, Try.ntmps25
  go_wp2_with fail
  (with_reducible refine (cnone p _ H.out).mono ?_)
  rintro e w1 ⟨rfl, hb⟩
  have HB := Aside0.mk hb
  clear hb
  go_wp2
  go_ret
  exact ⟨rfl, HB.out⟩
set_option maxHeartbeats 4000000 in
set_option maxRecDepth 100000 in
theorem chere (p : Option Addr) (w : World) (h : NobC w p) : Calls Try.prog 19 #[.pointer p] w fun e w' => e = .returned (.tuple #[.agg #[.string (⟨#[]⟩ : ByteArray), .int .u64 0, .int .i64 0], .string (⟨#[]⟩ : ByteArray), .bool false]) ∧ Below w.heap.size w w' := by
  have HB0 := Aside0.mk (below_alloc (Below.refl w.heap.size w) (.cells #[.string (⟨#[]⟩ : ByteArray), .int .u64 0, .int .i64 0] 28))
  have H := Aside0.mk (h.below HB0.out)
  have HX := Aside0.mk (World.alloc_heap_new w (.cells #[.string (⟨#[]⟩ : ByteArray), .int .u64 0, .int .i64 0] 28))
  clear h
  go_enter Try.func19, Try.ntmps19
  go_wp2
  refine start_ (n := 21) (S := fun w' => True) (ds := []) #[false, false, false, false, false, false, false, false, false, false, false, false, false, false, false, false, false, false, false, false, false] (by kernel_rfl) rfl rfl trivial (fun hHeld => ?_)
  refine pure_ (i := 0) (N := some 6) (v := ?_) (a' := ?_) #[true, false, false, false, false, false, false, false, false, false, false, false, false, false, false, false, false, false, false, false, false] rfl rfl (by kernel_rfl) (fun _ _ _ h => h) (Or.inl ⟨by rfl, ?_⟩) ?_ ?_
  rotate_left
  · intro w'
    go_simp
    with_reducible rfl
  rotate_left
  · simp only [Act.put, List.setIfInBounds_toArray, List.set_cons_zero, List.set_cons_succ, i64_w, i32_w]
    rfl
  refine one_ (i := 1) (N := some 7) #[true, true, false, false, false, false, false, false, false, false, false, false, false, false, false, false, false, false, false, false, false] rfl rfl (by kernel_rfl) (by decide) (fun K hK => ?_)
  refine goes_ Try.func43 (by kernel_rfl) rfl #[.pointer p] (by rfl) rfl rfl (by simp only [List.map_toArray, List.map_cons, List.map_nil]; rfl) ?_
  with_reducible refine (cnone p _ (by first | exact H.out | exact H.out.below (pw_below_drewN (Below.refl _ _) _))).mono ?_
  rintro e w3 ⟨rfl, hb⟩
  refine ⟨_, rfl, ?_⟩
  have HB := Aside0.mk (below_step (by repeat (first | exact HB0.out | apply pw_below_drewN | apply below_drew1)) hb)
  have HX3 := Aside0.mk ((hb.block w.heap.size (blk_lt (by first | exact HX.out | exact (pw_below_drewN (Below.refl _ _) _).block _ (blk_lt HX.out) ▸ HX.out))).trans (by first | exact HX.out | exact ((pw_below_drewN (Below.refl _ _) _).block _ (blk_lt HX.out)).trans HX.out))
  clear hb
  refine hK.out _ _ trivial (fun hHeld => ?_)
  clear hK K
  refine norm_ (a' := ?_) ?_ ?_
  rotate_left
  · show Act.put _ (some 7) _ = _
    simp only [Act.put, List.setIfInBounds_toArray, List.set_cons_zero, List.set_cons_succ, i64_w, i32_w]
    rfl
  refine pure_ (i := 2) (N := some 8) (v := ?_) (a' := ?_) #[true, true, true, false, false, false, false, false, false, false, false, false, false, false, false, false, false, false, false, false, false] rfl rfl (by kernel_rfl) (fun _ _ _ h => h) (Or.inl ⟨by rfl, ?_⟩) ?_ ?_
  rotate_left
  · intro w'
    go_simp
    with_reducible rfl
  rotate_left
  · simp only [Act.put, List.setIfInBounds_toArray, List.set_cons_zero, List.set_cons_succ, i64_w, i32_w]
    rfl
  refine pure_ (i := 3) (N := some 9) (v := undef) (a' := ?_) #[true, true, true, true, false, false, false, false, false, false, false, false, false, false, false, false, false, false, false, false, false] rfl rfl (by kernel_rfl) (fun _ _ _ h => h) (Or.inr ⟨by rfl, rfl⟩) ?_ ?_
  rotate_left
  · simp only [Act.put, List.setIfInBounds_toArray, List.set_cons_zero, List.set_cons_succ, i64_w, i32_w]
    rfl
  refine pure_ (i := 4) (N := some 10) (v := undef) (a' := ?_) #[true, true, true, true, true, false, false, false, false, false, false, false, false, false, false, false, false, false, false, false, false] rfl rfl (by kernel_rfl) (fun _ _ _ h => h) (Or.inr ⟨by rfl, rfl⟩) ?_ ?_
  rotate_left
  · simp only [Act.put, List.setIfInBounds_toArray, List.set_cons_zero, List.set_cons_succ, i64_w, i32_w]
    rfl
  refine pure_ (i := 5) (N := some 11) (v := undef) (a' := ?_) #[true, true, true, true, true, true, false, false, false, false, false, false, false, false, false, false, false, false, false, false, false] rfl rfl (by kernel_rfl) (fun _ _ _ h => h) (Or.inr ⟨by rfl, rfl⟩) ?_ ?_
  rotate_left
  · simp only [Act.put, List.setIfInBounds_toArray, List.set_cons_zero, List.set_cons_succ, i64_w, i32_w]
    rfl
  refine pure_ (i := 6) (N := some 12) (v := undef) (a' := ?_) #[true, true, true, true, true, true, true, false, false, false, false, false, false, false, false, false, false, false, false, false, false] rfl rfl (by kernel_rfl) (fun _ _ _ h => h) (Or.inr ⟨by rfl, rfl⟩) ?_ ?_
  rotate_left
  · simp only [Act.put, List.setIfInBounds_toArray, List.set_cons_zero, List.set_cons_succ, i64_w, i32_w]
    rfl
  refine pure_ (i := 7) (N := some 13) (v := undef) (a' := ?_) #[true, true, true, true, true, true, true, true, false, false, false, false, false, false, false, false, false, false, false, false, false] rfl rfl (by kernel_rfl) (fun _ _ _ h => h) (Or.inr ⟨by rfl, rfl⟩) ?_ ?_
  rotate_left
  · simp only [Act.put, List.setIfInBounds_toArray, List.set_cons_zero, List.set_cons_succ, i64_w, i32_w]
    rfl
  refine pure_ (i := 8) (N := some 14) (v := ?_) (a' := ?_) #[true, true, true, true, true, true, true, true, true, false, false, false, false, false, false, false, false, false, false, false, false] rfl rfl (by kernel_rfl) (fun _ _ _ h => h) (Or.inl ⟨by rfl, ?_⟩) ?_ ?_
  rotate_left
  · intro w'
    go_simp
    with_reducible rfl
  rotate_left
  · simp only [Act.put, List.setIfInBounds_toArray, List.set_cons_zero, List.set_cons_succ, i64_w, i32_w]
    rfl
  refine pure_ (i := 9) (N := some 15) (v := ?_) (a' := ?_) #[true, true, true, true, true, true, true, true, true, true, false, false, false, false, false, false, false, false, false, false, false] rfl rfl (by kernel_rfl) (fun _ _ _ h => h) (Or.inl ⟨by rfl, ?_⟩) ?_ ?_
  rotate_left
  · intro w'
    go_simp
    with_reducible rfl
  rotate_left
  · simp only [Act.put, List.setIfInBounds_toArray, List.set_cons_zero, List.set_cons_succ, i64_w, i32_w]
    rfl
  refine pure_ (i := 10) (N := some 16) (v := undef) (a' := ?_) #[true, true, true, true, true, true, true, true, true, true, true, false, false, false, false, false, false, false, false, false, false] rfl rfl (by kernel_rfl) (fun _ _ _ h => h) (Or.inr ⟨by rfl, rfl⟩) ?_ ?_
  rotate_left
  · simp only [Act.put, List.setIfInBounds_toArray, List.set_cons_zero, List.set_cons_succ, i64_w, i32_w]
    rfl
  refine pure_ (i := 11) (N := some 17) (v := undef) (a' := ?_) #[true, true, true, true, true, true, true, true, true, true, true, true, false, false, false, false, false, false, false, false, false] rfl rfl (by kernel_rfl) (fun _ _ _ h => h) (Or.inr ⟨by rfl, rfl⟩) ?_ ?_
  rotate_left
  · simp only [Act.put, List.setIfInBounds_toArray, List.set_cons_zero, List.set_cons_succ, i64_w, i32_w]
    rfl
  refine pure_ (i := 12) (N := some 18) (v := undef) (a' := ?_) #[true, true, true, true, true, true, true, true, true, true, true, true, true, false, false, false, false, false, false, false, false] rfl rfl (by kernel_rfl) (fun _ _ _ h => h) (Or.inr ⟨by rfl, rfl⟩) ?_ ?_
  rotate_left
  · simp only [Act.put, List.setIfInBounds_toArray, List.set_cons_zero, List.set_cons_succ, i64_w, i32_w]
    rfl
  refine pure_ (i := 13) (N := some 19) (v := undef) (a' := ?_) #[true, true, true, true, true, true, true, true, true, true, true, true, true, true, false, false, false, false, false, false, false] rfl rfl (by kernel_rfl) (fun _ _ _ h => h) (Or.inr ⟨by rfl, rfl⟩) ?_ ?_
  rotate_left
  · simp only [Act.put, List.setIfInBounds_toArray, List.set_cons_zero, List.set_cons_succ, i64_w, i32_w]
    rfl
  refine pure_ (i := 14) (N := some 20) (v := undef) (a' := ?_) #[true, true, true, true, true, true, true, true, true, true, true, true, true, true, true, false, false, false, false, false, false] rfl rfl (by kernel_rfl) (fun _ _ _ h => h) (Or.inr ⟨by rfl, rfl⟩) ?_ ?_
  rotate_left
  · simp only [Act.put, List.setIfInBounds_toArray, List.set_cons_zero, List.set_cons_succ, i64_w, i32_w]
    rfl
  refine pure_ (i := 15) (N := some 21) (v := undef) (a' := ?_) #[true, true, true, true, true, true, true, true, true, true, true, true, true, true, true, true, false, false, false, false, false] rfl rfl (by kernel_rfl) (fun _ _ _ h => h) (Or.inr ⟨by rfl, rfl⟩) ?_ ?_
  rotate_left
  · simp only [Act.put, List.setIfInBounds_toArray, List.set_cons_zero, List.set_cons_succ, i64_w, i32_w]
    rfl
  refine pure_ (i := 16) (N := some 22) (v := undef) (a' := ?_) #[true, true, true, true, true, true, true, true, true, true, true, true, true, true, true, true, true, false, false, false, false] rfl rfl (by kernel_rfl) (fun _ _ _ h => h) (Or.inr ⟨by rfl, rfl⟩) ?_ ?_
  rotate_left
  · simp only [Act.put, List.setIfInBounds_toArray, List.set_cons_zero, List.set_cons_succ, i64_w, i32_w]
    rfl
  refine pure_ (i := 17) (N := some 23) (v := undef) (a' := ?_) #[true, true, true, true, true, true, true, true, true, true, true, true, true, true, true, true, true, true, false, false, false] rfl rfl (by kernel_rfl) (fun _ _ _ h => h) (Or.inr ⟨by rfl, rfl⟩) ?_ ?_
  rotate_left
  · simp only [Act.put, List.setIfInBounds_toArray, List.set_cons_zero, List.set_cons_succ, i64_w, i32_w]
    rfl
  refine pure_ (i := 18) (N := some 24) (v := undef) (a' := ?_) #[true, true, true, true, true, true, true, true, true, true, true, true, true, true, true, true, true, true, true, false, false] rfl rfl (by kernel_rfl) (fun _ _ _ h => h) (Or.inr ⟨by rfl, rfl⟩) ?_ ?_
  rotate_left
  · simp only [Act.put, List.setIfInBounds_toArray, List.set_cons_zero, List.set_cons_succ, i64_w, i32_w]
    rfl
  refine pure_ (i := 19) (N := some 25) (v := undef) (a' := ?_) #[true, true, true, true, true, true, true, true, true, true, true, true, true, true, true, true, true, true, true, true, false] rfl rfl (by kernel_rfl) (fun _ _ _ h => h) (Or.inr ⟨by rfl, rfl⟩) ?_ ?_
  rotate_left
  · simp only [Act.put, List.setIfInBounds_toArray, List.set_cons_zero, List.set_cons_succ, i64_w, i32_w]
    rfl
  refine pure_ (i := 20) (N := some 26) (v := ?_) (a' := ?_) #[true, true, true, true, true, true, true, true, true, true, true, true, true, true, true, true, true, true, true, true, true] rfl rfl (by kernel_rfl) (fun _ _ _ h => h) (Or.inl ⟨by rfl, ?_⟩) ?_ ?_
  rotate_left
  · intro w'
    go_simp
    with_reducible rfl
  rotate_left
  · simp only [Act.put, List.setIfInBounds_toArray, List.set_cons_zero, List.set_cons_succ, i64_w, i32_w]
    rfl
  refine done_ (by kernel_rfl) ?_
  have hz0 : w3.cell? ⟨w.heap.size, 0, none⟩ = some (.string (⟨#[]⟩ : ByteArray)) := (blk_cell HX3.out 0).trans rfl
  have hz1 : w3.cell? ⟨w.heap.size, 1, none⟩ = some (.int .u64 0) := (blk_cell HX3.out 1).trans rfl
  have hz2 : w3.cell? ⟨w.heap.size, 2, none⟩ = some (.int .i64 0) := (blk_cell HX3.out 2).trans rfl
  have hf0 := blk_frozen HX3.out 0
  have hf1 := blk_frozen HX3.out 1
  have hf2 := blk_frozen HX3.out 2
  go_wp2
  refine bodyPost_ret (results_ctt rfl _ _ w.heap.size 28 #[.string (⟨#[]⟩ : ByteArray), .int .u64 0, .int .i64 0] (0, 0) _ rfl ?bk3 Try.underlying28 rfl (by kernel_rfl)) rfl ?_
  case bk3 => exact blk_put (cs := #[.string (⟨#[]⟩ : ByteArray), .int .u64 0, .int .i64 0]) (blk_put (cs := #[.string (⟨#[]⟩ : ByteArray), .int .u64 0, .int .i64 0]) (blk_put (cs := #[.string (⟨#[]⟩ : ByteArray), .int .u64 0, .int .i64 0]) HX3.out 0 _ rfl) 1 _ rfl) 2 _ rfl
  exact ⟨rfl, below_set (below_set (below_set HB.out (Nat.le_refl _)) (Nat.le_refl _)) (Nat.le_refl _)⟩
set_option maxHeartbeats 16000000 in
set_option maxRecDepth 100000 in
theorem nobody_calls (k : ByteArray) (s n : Int) (v : ByteArray) (w : World) :
    Calls Try.prog 5 #[.agg #[.string k, .int .u64 s, .int .i64 n, .string v]] w fun e w' => e = .returned (.bool true) ∧ Below w.heap.size w w' := by
  have hz : Aside0 True := ⟨trivial⟩
  go_enter Try.func5, Try.ntmps5
  go_wp2_with fail
  obtain ⟨W0, hW0⟩ : ∃ W0, ((w.alloc (.cells #[.string k, .int .u64 s, .int .i64 n, .string v] 30)).alloc (.cells #[.int .i64 0, .int .i64 0, .int .i64 0, .string (⟨#[]⟩ : ByteArray), .int .u64 0, .int .i64 0, .slice none 0 0, .slice none 0 0, .slice none 0 0] 45)).alloc (.cells #[.pointer none, .pointer (some ⟨w.heap.size + 1, 0, none⟩)] 32) = W0 := ⟨_, rfl⟩
  have z2 := World.alloc_heap_new ((w.alloc (.cells #[.string k, .int .u64 s, .int .i64 n, .string v] 30)).alloc (.cells #[.int .i64 0, .int .i64 0, .int .i64 0, .string (⟨#[]⟩ : ByteArray), .int .u64 0, .int .i64 0, .slice none 0 0, .slice none 0 0, .slice none 0 0] 45)) (.cells #[.pointer none, .pointer (some ⟨w.heap.size + 1, 0, none⟩)] 32)
  have z1 := World.alloc_heap_new (w.alloc (.cells #[.string k, .int .u64 s, .int .i64 n, .string v] 30)) (.cells #[.int .i64 0, .int .i64 0, .int .i64 0, .string (⟨#[]⟩ : ByteArray), .int .u64 0, .int .i64 0, .slice none 0 0, .slice none 0 0, .slice none 0 0] 45)
  have z0 := World.alloc_heap_new w (.cells #[.string k, .int .u64 s, .int .i64 n, .string v] 30)
  rw [World.size_alloc, World.size_alloc, hW0] at z2
  rw [World.size_alloc] at z1
  have z1' : W0.heap[w.heap.size + 1]? = some (.cells #[.int .i64 0, .int .i64 0, .int .i64 0, .string (⟨#[]⟩ : ByteArray), .int .u64 0, .int .i64 0, .slice none 0 0, .slice none 0 0, .slice none 0 0] 45 (0, 0)) := by rw [← hW0]; exact (Below.heap_alloc _ _ _ (by rw [World.size_alloc, World.size_alloc]; omega)).trans z1
  have z0' : W0.heap[w.heap.size]? = some (.cells #[.string k, .int .u64 s, .int .i64 n, .string v] 30 (0, 0)) := by rw [← hW0]; exact (Below.heap_alloc _ _ _ (by rw [World.size_alloc, World.size_alloc]; omega)).trans ((Below.heap_alloc _ _ _ (by rw [World.size_alloc]; omega)).trans z0)
  have HBW := Aside0.mk (show Below w.heap.size w W0 by rw [← hW0]; exact below_alloc (below_alloc (below_alloc (Below.refl _ _) _) _) _)
  have E2 := Aside0.mk z2
  have E0 := Aside0.mk z0'
  have HN0 := Aside0.mk (show NobB W0 none from .inl rfl)
  have HN1 := Aside0.mk (show NobB W0 (some ⟨w.heap.size + 1, 0, none⟩) from .inr ⟨_, rfl, z1'⟩)
  have HB0 := Aside0.mk (Below.refl W0.heap.size W0)
  rw [hW0]
  clear hW0 z0 z1 z2 z0' z1' hz
  go_loopw [14] (fun v14 wr => ∃ (i : Nat), v14 = .int .i64 (i : Int) ∧ i ≤ 2 ∧ Aside0 (Below W0.heap.size W0 wr)) (fun v14 _ => 2 - (intOf v14).toNat)
  case atStart => exact ⟨0, rfl, by omega, HB0⟩
  case round =>
    obtain ⟨i, rfl, hi, HB⟩ := hrel
    have hrow := (HB.out.block _ (blk_lt E2.out)).trans E2.out
    have r0 := blk_cell hrow 0
    have r1 := blk_cell hrow 1
    have hrx := (HB.out.block _ (blk_lt E0.out)).trans E0.out
    have x0 := blk_cell hrx 0
    have x1 := blk_cell hrx 1
    have x2 := blk_cell hrx 2
    have x3 := blk_cell hrx 3
    clear hrow hrx
    rcases (show i = 0 ∨ i = 1 ∨ i = 2 by omega) with rfl | rfl | rfl
    · skip
      go_wp2_with fail
      (with_reducible refine (badd none k s n v _ (HN0.out.below HB.out)).mono ?_)
      rintro e w1 ⟨rfl, hb⟩
      have HB := Aside0.mk (below_step HB.out hb)
      clear hb
      go_wp2_with fail
      (with_reducible refine (blen none _ (HN0.out.below HB.out)).mono ?_)
      rintro e w1 ⟨rfl, hb⟩
      have HB := Aside0.mk (below_step HB.out hb)
      clear hb
      go_wp2_with fail
      (with_reducible refine (bsize none _ (HN0.out.below HB.out)).mono ?_)
      rintro e w1 ⟨rfl, hb⟩
      have HB := Aside0.mk (below_step HB.out hb)
      clear hb
      go_wp2_with fail
      (with_reducible refine (bbytes none _ (HN0.out.below HB.out)).mono ?_)
      rintro e w1 ⟨rfl, hb⟩
      have HB := Aside0.mk (below_step HB.out hb)
      clear hb
      go_wp2
      go_roundw
      case rel => exact ⟨1, by trivial, by omega, HB⟩
      case measure => simp only [intOf]; omega
    · skip
      go_wp2_with fail
      (with_reducible refine (badd _ k s n v _ (HN1.out.below HB.out)).mono ?_)
      rintro e w1 ⟨rfl, hb⟩
      have HB := Aside0.mk (below_step HB.out hb)
      clear hb
      go_wp2_with fail
      (with_reducible refine (blen _ _ (HN1.out.below HB.out)).mono ?_)
      rintro e w1 ⟨rfl, hb⟩
      have HB := Aside0.mk (below_step HB.out hb)
      clear hb
      go_wp2_with fail
      (with_reducible refine (bsize _ _ (HN1.out.below HB.out)).mono ?_)
      rintro e w1 ⟨rfl, hb⟩
      have HB := Aside0.mk (below_step HB.out hb)
      clear hb
      go_wp2_with fail
      (with_reducible refine (bbytes _ _ (HN1.out.below HB.out)).mono ?_)
      rintro e w1 ⟨rfl, hb⟩
      have HB := Aside0.mk (below_step HB.out hb)
      clear hb
      go_wp2
      go_roundw
      case rel => exact ⟨2, by trivial, by omega, HB⟩
      case measure => simp only [intOf]; omega
    · have HBA := HB
      clear r0 r1 x0 x1 x2 x3 HB
      rw [show ((2 : Nat) : Int) = 2 from rfl]
      go_wp2_with fail
      obtain ⟨W1, hW1⟩ : ∃ W1, (wr.alloc (.cells #[.slice none 0 0, .int .i64 0, .bool false] 50)).alloc (.cells #[.pointer none, .pointer (some ⟨wr.heap.size, 0, none⟩)] 47) = W1 := ⟨_, rfl⟩
      have z2 := World.alloc_heap_new (wr.alloc (.cells #[.slice none 0 0, .int .i64 0, .bool false] 50)) (.cells #[.pointer none, .pointer (some ⟨wr.heap.size, 0, none⟩)] 47)
      have z1 := World.alloc_heap_new wr (.cells #[.slice none 0 0, .int .i64 0, .bool false] 50)
      rw [World.size_alloc, hW1] at z2
      have z1' : W1.heap[wr.heap.size]? = some (.cells #[.slice none 0 0, .int .i64 0, .bool false] 50 (0, 0)) := by rw [← hW1]; exact (Below.heap_alloc _ _ _ (by rw [World.size_alloc]; omega)).trans z1
      have HB1 := Aside0.mk (show Below W0.heap.size W0 W1 by rw [← hW1]; exact below_alloc (below_alloc HBA.out _) _)
      have E0 := Aside0.mk ((HB1.out.block _ (blk_lt E0.out)).trans E0.out)
      have E2 := Aside0.mk z2
      have HN0 := Aside0.mk (show NobC W1 none from .inl rfl)
      have HN1 := Aside0.mk (show NobC W1 (some ⟨wr.heap.size, 0, none⟩) from .inr ⟨_, rfl, z1'⟩)
      have HBB := Aside0.mk (Below.refl W1.heap.size W1)
      have HBW1 := Aside0.mk (below_step HBW.out HB1.out)
      rw [hW1]
      clear hW1 z1 z2 z1' HB1
      obtain ⟨g0, hg0⟩ : ∃ g, wr.heap.size = g := ⟨_, rfl⟩
      rw [hg0] at HN1 E2 ⊢
      clear hg0
      go_loopw [46] (fun v46 wr => ∃ (i : Nat), v46 = .int .i64 (i : Int) ∧ i ≤ 2 ∧ Aside0 (Below W1.heap.size W1 wr)) (fun v46 _ => 2 - (intOf v46).toNat)
      case atStart => exact ⟨0, rfl, by omega, HBB⟩
      case round =>
        obtain ⟨i, rfl, hi, HB⟩ := hrel
        have hrow := (HB.out.block _ (blk_lt E2.out)).trans E2.out
        have r0 := blk_cell hrow 0
        have r1 := blk_cell hrow 1
        clear hrow
        rcases (show i = 0 ∨ i = 1 ∨ i = 2 by omega) with rfl | rfl | rfl
        · skip
          go_wp2_with fail
          (with_reducible refine (chere none _ (HN0.out.below HB.out)).mono ?_)
          rintro e wh ⟨rfl, hb⟩
          have HB := Aside0.mk (below_step HB.out hb)
          clear hb
          have HK := Aside0.mk (World.alloc_heap_new wh (.cells #[.string (⟨#[]⟩ : ByteArray), .int .u64 0, .int .i64 0] 28))
          have HB := Aside0.mk (below_alloc HB.out (.cells #[.string (⟨#[]⟩ : ByteArray), .int .u64 0, .int .i64 0] 28))
          go_wp2_with fail
          (with_reducible refine (clen none _ (HN0.out.below HB.out)).mono ?_)
          rintro e w1 ⟨rfl, hb⟩
          have HB := Aside0.mk (below_step HB.out hb)
          have HK := Aside0.mk ((hb.block _ (blk_lt HK.out)).trans HK.out)
          clear hb
          go_wp2_with fail
          (with_reducible refine (cfirst none _ (HN0.out.below HB.out)).mono ?_)
          rintro e w1 ⟨rfl, hb⟩
          have HB := Aside0.mk (below_step HB.out hb)
          have HK := Aside0.mk ((hb.block _ (blk_lt HK.out)).trans HK.out)
          clear hb
          go_wp2_with fail
          (with_reducible refine (clast none _ (HN0.out.below HB.out)).mono ?_)
          rintro e w1 ⟨rfl, hb⟩
          have HB := Aside0.mk (below_step HB.out hb)
          have HK := Aside0.mk ((hb.block _ (blk_lt HK.out)).trans HK.out)
          clear hb
          have x0 := blk_cell ((HB.out.block _ (blk_lt E0.out)).trans E0.out) 0
          have x1 := blk_cell ((HB.out.block _ (blk_lt E0.out)).trans E0.out) 1
          have x2 := blk_cell ((HB.out.block _ (blk_lt E0.out)).trans E0.out) 2
          have x3 := blk_cell ((HB.out.block _ (blk_lt E0.out)).trans E0.out) 3
          go_wp2_with fail
          (with_reducible refine (cseek none k s n _ (HN0.out.below HB.out)).mono ?_)
          rintro e w1 ⟨rfl, hb⟩
          have HB := Aside0.mk (below_step HB.out hb)
          have HK := Aside0.mk ((hb.block _ (blk_lt HK.out)).trans HK.out)
          clear hb
          clear x0 x1 x2 x3
          go_wp2_with fail
          (with_reducible refine (cnext none _ (HN0.out.below HB.out)).mono ?_)
          rintro e w1 ⟨rfl, hb⟩
          have HB := Aside0.mk (below_step HB.out hb)
          have HK := Aside0.mk ((hb.block _ (blk_lt HK.out)).trans HK.out)
          clear hb
          go_wp2_with fail
          (with_reducible refine (cprev none _ (HN0.out.below HB.out)).mono ?_)
          rintro e w1 ⟨rfl, hb⟩
          have HB := Aside0.mk (below_step HB.out hb)
          have HK := Aside0.mk ((hb.block _ (blk_lt HK.out)).trans HK.out)
          clear hb
          have k0 := blk_cell HK.out 0
          have k1 := blk_cell HK.out 1
          have k2 := blk_cell HK.out 2
          go_wp2
          go_roundw
          case rel => exact ⟨1, by trivial, by omega, HB⟩
          case measure => simp only [intOf]; omega
        · skip
          go_wp2_with fail
          (with_reducible refine (chere _ _ (HN1.out.below HB.out)).mono ?_)
          rintro e wh ⟨rfl, hb⟩
          have HB := Aside0.mk (below_step HB.out hb)
          clear hb
          have HK := Aside0.mk (World.alloc_heap_new wh (.cells #[.string (⟨#[]⟩ : ByteArray), .int .u64 0, .int .i64 0] 28))
          have HB := Aside0.mk (below_alloc HB.out (.cells #[.string (⟨#[]⟩ : ByteArray), .int .u64 0, .int .i64 0] 28))
          go_wp2_with fail
          (with_reducible refine (clen _ _ (HN1.out.below HB.out)).mono ?_)
          rintro e w1 ⟨rfl, hb⟩
          have HB := Aside0.mk (below_step HB.out hb)
          have HK := Aside0.mk ((hb.block _ (blk_lt HK.out)).trans HK.out)
          clear hb
          go_wp2_with fail
          (with_reducible refine (cfirst _ _ (HN1.out.below HB.out)).mono ?_)
          rintro e w1 ⟨rfl, hb⟩
          have HB := Aside0.mk (below_step HB.out hb)
          have HK := Aside0.mk ((hb.block _ (blk_lt HK.out)).trans HK.out)
          clear hb
          go_wp2_with fail
          (with_reducible refine (clast _ _ (HN1.out.below HB.out)).mono ?_)
          rintro e w1 ⟨rfl, hb⟩
          have HB := Aside0.mk (below_step HB.out hb)
          have HK := Aside0.mk ((hb.block _ (blk_lt HK.out)).trans HK.out)
          clear hb
          have x0 := blk_cell ((HB.out.block _ (blk_lt E0.out)).trans E0.out) 0
          have x1 := blk_cell ((HB.out.block _ (blk_lt E0.out)).trans E0.out) 1
          have x2 := blk_cell ((HB.out.block _ (blk_lt E0.out)).trans E0.out) 2
          have x3 := blk_cell ((HB.out.block _ (blk_lt E0.out)).trans E0.out) 3
          go_wp2_with fail
          (with_reducible refine (cseek _ k s n _ (HN1.out.below HB.out)).mono ?_)
          rintro e w1 ⟨rfl, hb⟩
          have HB := Aside0.mk (below_step HB.out hb)
          have HK := Aside0.mk ((hb.block _ (blk_lt HK.out)).trans HK.out)
          clear hb
          clear x0 x1 x2 x3
          go_wp2_with fail
          (with_reducible refine (cnext _ _ (HN1.out.below HB.out)).mono ?_)
          rintro e w1 ⟨rfl, hb⟩
          have HB := Aside0.mk (below_step HB.out hb)
          have HK := Aside0.mk ((hb.block _ (blk_lt HK.out)).trans HK.out)
          clear hb
          go_wp2_with fail
          (with_reducible refine (cprev _ _ (HN1.out.below HB.out)).mono ?_)
          rintro e w1 ⟨rfl, hb⟩
          have HB := Aside0.mk (below_step HB.out hb)
          have HK := Aside0.mk ((hb.block _ (blk_lt HK.out)).trans HK.out)
          clear hb
          have k0 := blk_cell HK.out 0
          have k1 := blk_cell HK.out 1
          have k2 := blk_cell HK.out 2
          go_wp2
          go_roundw
          case rel => exact ⟨2, by trivial, by omega, HB⟩
          case measure => simp only [intOf]; omega
        · go_wp2
          go_ret
          exact ⟨by simp, below_step HBW1.out HB.out⟩
theorem open_item {w : World} {cs : Array Value} {k : ByteArray} {s n : Int} {v : ByteArray} (h : (Kd.pair (Kd.pair Kd.string (Kd.pair (Kd.int .u64) (Kd.int .i64))) Kd.string).K w ((k, s, n), v) cs.toList) : cs = #[.string k, .int .u64 s, .int .i64 n, .string v] := by
  obtain ⟨c1, c2, e, ⟨d1, d2, e2, h1, ⟨f1, f2, e3, g1, g2⟩⟩, h2⟩ := h
  have e4 : d1 = [.string k] := h1
  have e5 : f1 = [.int .u64 s] := g1
  have e6 : f2 = [.int .i64 n] := g2
  have e7 : c2 = [.string v] := h2
  subst e4 e5 e6 e7
  subst e3
  subst e2
  apply Array.toList_inj.1
  simpa using e
theorem BlockNobody_upto (w : World) (cs0 : Array Value) (x0 : (((ByteArray × Int × Int)) × ByteArray)) (hK0 : (Kd.pair (Kd.pair Kd.string (Kd.pair (Kd.int .u64) (Kd.int .i64))) Kd.string).K w x0 cs0.toList) (hg0 : (x0.1.1.size ≤ maxLen ∧ (Lit.int .u64 x0.1.2.1).wf = true ∧ (Lit.int .i64 x0.1.2.2).wf = true) ∧ x0.2.size ≤ maxLen) (hbulk : 0 ≤ 1048576) :
    Calls Try.prog 5 #[.agg cs0] w fun e w' => e = .returned (.bool true) ∧ Below w.heap.size w w' := by
  obtain ⟨⟨k, s, n⟩, v⟩ := x0
  have hcs := open_item hK0
  subst hcs
  exact nobody_calls k s n v w

end Go.Proofs.Ytbhifenkfoddgaa.G
