/- Contracts of functions and plain laws, several texts of the session put together by its program. -/
import Derived.Test.YtppldgbgdgeegaaProg
import Derived.Below
import Derived.Deep.Draws
import Derived.Deep.AppendLies
import Derived.Maps.AppendAt
import Derived.OwnWalk
import Derived.Laws.BytesArg
import Derived.Laws.MakeOwn
import Derived.Laws.OwnMore
import Derived.Deep.OwnRows
import Derived.Tactics
import Derived.Lib.ConvBytes
import Derived.Laws.Slices
import Derived.WalkKit
import Derived.KernelRfl
import Derived.RowKit3
import Derived.Deep.LoopGhost
import Derived.Deep.QuietTactic
import Derived.BigQuiet
import Derived.WideLaws
import Derived.Deep.DeepCutAuto
import Derived.Deep.CutBlock
import Derived.Deep.RegionHeld3
import Derived.Laws.Rows
import Derived.Lib.AppendStr
import Derived.ArgAppend
import Derived.Laws.IdiomCopy
import Derived.OrdersHeld
import Derived.Laws.BitsLemmas
import Derived.RowKit
import Derived.Test.YtppldgbgdgeegaaWWords
import Derived.Test.YtppldgbgdgeegaaWLast
import Derived.Test.YtppldgbgdgeegaaWTab
import Derived.Test.YtppldgbgdgeegaaWFour
import Derived.Test.YtppldgbgdgeegaaWQPut
import Derived.Test.YtppldgbgdgeegaaWApart
import Derived.Test.YtppldgbgdgeegaaWArr
import Derived.Test.YtppldgbgdgeegaaWZeros
import Derived.Test.YtppldgbgdgeegaaWFoot
import Derived.Test.YtppldgbgdgeegaaWKept
import Derived.Test.YtppldgbgdgeegaaWShare
import Derived.Test.YtppldgbgdgeegaaWN
import Derived.Test.YtppldgbgdgeegaaWFootNe
import Derived.Test.YtppldgbgdgeegaaWAt
import Derived.Test.YtppldgbgdgeegaaWEqStruct
import Derived.Test.YtppldgbgdgeegaaWRepsOne
import Derived.Test.YtppldgbgdgeegaaWInv
import Derived.Test.YtppldgbgdgeegaaWInvWords
import Derived.Test.YtppldgbgdgeegaaWGuard
import Derived.Test.YtppldgbgdgeegaaWNEv
import Derived.Test.YtppldgbgdgeegaaWMore
import Derived.Test.YtppldgbgdgeegaaQ0
import Derived.Carry
import Derived.Test.YtppldgbgdgeegaaQ1

/- Contracts typed by hand: edit.Merge -/
namespace Go.Proofs.Ytppldgbgdgeegaa.G
open Go.RowKit Go.Proofs.YtppldgbgdgeegaaW.PrintWords Go.Proofs.YtppldgbgdgeegaaW.PrintLast Go.Proofs.YtppldgbgdgeegaaW.PrintMore
attribute [local go_sem] max2_int min2_int max_two min_two max_three min_three max_four min_four
set_option linter.unusedVariables false
set_option linter.unusedSimpArgs false

/-! edit.Merge -/
open Go.WideMaps Go.WideElems
theorem eq_nil28 (n c : Nat) (X : World) : (binOp .eql 28 (.slice none n c) (.slice none 0 0)).run Try.prog X = .ok (.bool true) X := by
  first | rfl | (simp [binOp, go_sem]; done) | (unfold binOp; simp [go_sem, Try.underlying28])
theorem eq_some28 (ad : Addr) (n c : Nat) (X : World) : (binOp .eql 28 (.slice (some ad) n c) (.slice none 0 0)).run Try.prog X = .ok (.bool false) X := by
  first | rfl | (simp [binOp, go_sem]; done) | (unfold binOp; simp [go_sem, Try.underlying28])
set_option maxHeartbeats 4000000 in
set_option maxRecDepth 100000 in
theorem Clone_calls (A : Option Addr) (c : Nat) (l : List S45) (w : World) (hr : Kd.C k45 w A l.length l) (hc : l.length ≤ c) (hl : l.length ≤ 3145728) :
    Calls Try.prog 14 #[.slice A l.length c] w fun e w' => ∃ v, e = .returned v ∧ Kd.R k45 45 w' w.heap.size (fun _ => True) v l ∧ Below w.heap.size w w' := by
  have HR := Aside0.mk hr
  obtain ⟨n, hn⟩ : ∃ n, l.length = n := ⟨_, rfl⟩
  have HN := Aside0.mk hn
  have HL := Aside0.mk hl
  rw [hn]
  cases A with
  | none =>
    have hl0 : l = [] := by
      cases l with
      | nil => rfl
      | cons x r =>
        obtain ⟨ad, he, _⟩ := hr.2.2 (by simp)
        cases he
    have HL0 := Aside0.mk hl0
    clear hr hc hl hn hl0
    have hq := eq_nil28
    go_enter Try.func14, Try.ntmps14
    go_wp2
    go_ret
    exact ⟨_, rfl, by rw [HL0.out]; exact Kd.R_nil _ _ _ _ _, Below.refl _ _⟩
  | some ad =>
    clear hr hc hl hn
    have hq := eq_some28
    go_enter Try.func14, Try.ntmps14
    go_wp2_with (first | ((with_reducible refine gate_dst (N := 5) rfl ?_); refine Kd.R_lit k45 _ 45 ?hg (N := 5) ?hd (xs := ([] : List (S45))) (inner := []) (ok := fun _ => True) (okp := fun _ => True) ?hr ?hp (fun _ hk => hk) trivial (Below.refl _ _) (Nat.le_refl _) (by simp) ?_; (case hd => rfl); (case hg => rfl); (case hr => first | (go_simp; done) | (go_simp; rfl)); (case hp => exact (Reps.none _ _)); intro v1 w1 ho hb hg_ hnew_; have HO1 := Aside0.mk ho; have HB1 := Aside0.mk hb; clear ho hb hg_ hnew_) | ((with_reducible refine gate_builtin (b := .append) (xs := #[.tmp 5, .tmp 6]) rfl ?_); at_builtin; refine Kd.R_append_rows k45 (w0 := w) w.heap.size rfl (.tmp 5) (.tmp 6) 28 45 (.agg #[(.int .i64 0), (.int .i64 0)]) 16 rfl Try.underlying28 info45 rfl (by decide) (by omega) v1 [] l _ _ _ (fun _ => True) (fun _ => False) rfl rfl ?aO ?aR (fun _ _ h => h) (fun _ h => h.elim) ?aF ?aB ?aS ?aL ?_; (case aR => exact (by have := Kd.C_below HR.out HB1.out; rw [HN.out] at this; exact this)); (case aB => exact HB1.out); (case aF => exact (fun _ _ => trivial)); (case aO => exact HO1.out); (case aS => exact (below_size HB1.out)); (case aL => have := HL.out; have := HN.out; simp only [List.length_nil]; omega); intro v2 w2 ho hb hg hat; have HO2 := Aside0.mk ho; have HB2 := Aside0.mk hb; clear ho hb hg hat))
    go_ret
    exact ⟨_, rfl, by have := HO2.out; rwa [List.nil_append] at this, HB2.out⟩
def plC (c : S43) : Int × Int := (c.f0, c.f1.f0)
def plG (g : S45) : Int × Int := (g.f0, g.f1)
/-- what goes, what comes of a merge -/
def mG (aG : List S45) (aC : List S43) (bG : List S45) : List S45 := aG ++ bG.filter fun g => decide ((aC.map plC).count (plG g) = 0)
def mC (aC bC : List S43) (bG : List S45) : List S43 := (aC.filter fun c => decide ((bG.map plG).count (plC c) = 0)) ++ bC
def mN (a b : Int) : Int := if b = 0 then a else b
abbrev cE (x0 x1 x2 : Int) (vG vC : Value) : Array Value := #[.int .i64 x0, .int .i64 x1, .int .u64 x2, vG, vC]
/-- a merge under way -/
structure Mo (w wr : World) (go : Nat) (ca cb : Array Value) (x0 x1 x2 : Int) (vG vC : Value) (lG : List S45) (lC : List S43) : Prop where
  ba : wr.heap[w.heap.size]? = some (.cells ca 31 (0, 0))
  bb : wr.heap[w.heap.size + 1]? = some (.cells cb 31 (0, 0))
  br : wr.heap[w.heap.size + 2]? = some (.cells (cE 0 0 0 (.slice none 0 0) (.slice none 0 0)) 31 (0, 0))
  bo : wr.heap[go]? = some (.cells (cE x0 x1 x2 vG vC) 31 (0, 0))
  rg : Kd.R k45 45 wr w.heap.size (fun _ => True) vG lG
  rc : Kd.R k43 43 wr w.heap.size (fun _ => True) vC lC
  hb : Below w.heap.size w wr
  hg : w.heap.size + 3 ≤ go
theorem MapP.obj {w : World} {b : Nat} {l : List (Int × Int)} (h : MapP w b l) : ∃ es clock, w.heap[b]? = some (.map es clock) := by
  obtain ⟨n, D, h1, ⟨es, clock, g1, _⟩, _⟩ := h
  exact ⟨es, clock, g1⟩
theorem MapP.ne {w : World} {b i : Nat} {l : List (Int × Int)} (h : MapP w b l) {cs : Array Value} {t : TypeId} {m : Nat × Nat} (hi : w.heap[i]? = some (.cells cs t m)) : i ≠ b := by
  rintro rfl
  obtain ⟨es, clock, g1⟩ := h.obj
  rw [g1] at hi
  cases hi
theorem MapP.row {α : Type} {d : Kd α} {e base : Nat} {ok : Nat → Prop} {v : Value} {xs : List α} {w : World} {b : Nat} {l : List (Int × Int)} (h : MapP w b l) (hr : d.R e w base ok v xs) : some b ≠ v.ownBlock := by
  intro hv
  obtain ⟨inner, ho⟩ := Kd.R_own hr
  obtain ⟨cs, hc⟩ := own_typed ho b hv.symm
  exact h.ne hc rfl
section
variable {w wr w2 : World} {go : Nat} {ca cb : Array Value} {x0 x1 x2 : Int} {vG vC : Value} {lG : List S45} {lC : List S43}
theorem Mo.below (h : Mo w wr go ca cb x0 x1 x2 vG vC lG lC) (hb : Below wr.heap.size wr w2) : Mo w w2 go ca cb x0 x1 x2 vG vC lG lC :=
  ⟨(hb.block _ (blk_lt h.ba)).trans h.ba, (hb.block _ (blk_lt h.bb)).trans h.bb, (hb.block _ (blk_lt h.br)).trans h.br, (hb.block _ (blk_lt h.bo)).trans h.bo, Kd.R_below h.rg hb, Kd.R_below h.rc hb, below_step h.hb hb, h.hg⟩
/-- a map is written -/
theorem Mo.map (h : Mo w wr go ca cb x0 x1 x2 vG vC lG lC) {ml : Nat} {l2 : List (Int × Int)} (hml : MapP wr ml l2) (hle : w.heap.size ≤ ml) (hg : wr.grownBy w2 (some ml)) : Mo w w2 go ca cb x0 x1 x2 vG vC lG lC :=
  ⟨(hg.block _ (blk_lt h.ba) (by have := hml.ne h.ba; simpa using this)).trans h.ba, (hg.block _ (blk_lt h.bb) (by have := hml.ne h.bb; simpa using this)).trans h.bb, (hg.block _ (blk_lt h.br) (by have := hml.ne h.br; simpa using this)).trans h.br, (hg.block _ (blk_lt h.bo) (by have := hml.ne h.bo; simpa using this)).trans h.bo,
    Kd.R_grown2 h.rg rfl hg (fun k hk => by cases hk; exact hml.row h.rg), Kd.R_grown2 h.rc rfl hg (fun k hk => by cases hk; exact hml.row h.rc), h.hb.grown hg h.hb.size (fun k e => by cases e; exact hle), h.hg⟩
theorem grown_cell (W : World) (b j : Nat) (v : Value) : W.grownBy (W.setCell ⟨b, j, none⟩ v) (some b) :=
  ⟨rfl, rfl, rfl, by simp [World.setCell], fun k _ hk => Below.heap_setCell _ _ _ k (fun e => hk (by rw [e]))⟩
/-- a cell of what is told is written -/
theorem Mo.cell (h : Mo w wr go ca cb x0 x1 x2 vG vC lG lC) (j : Nat) (u : Value) {y0 y1 y2 : Int} (hc : (cE x0 x1 x2 vG vC).setIfInBounds j u = cE y0 y1 y2 vG vC) : Mo w (wr.setCell ⟨go, j, none⟩ u) go ca cb y0 y1 y2 vG vC lG lC := by
  have hgo := h.hg
  have hg := grown_cell wr go j u
  refine ⟨(hg.block _ (blk_lt h.ba) (by simp; omega)).trans h.ba, (hg.block _ (blk_lt h.bb) (by simp; omega)).trans h.bb, (hg.block _ (blk_lt h.br) (by simp; omega)).trans h.br, ?_, Kd.R_grown2 h.rg rfl hg (fun k hk => by cases hk; exact Kd.R_ne h.rg h.bo (by decide)), Kd.R_grown2 h.rc rfl hg (fun k hk => by cases hk; exact Kd.R_ne h.rc h.bo (by decide)), h.hb.setCell (by show w.heap.size ≤ go; omega) _, hgo⟩
  rw [← hc]
  exact blk_set h.bo j u
end
section
variable {w wr w1 : World} {go : Nat} {ca cb : Array Value} {x0 x1 x2 : Int} {vG vC v1 : Value} {lG l2 : List S45} {lC l3 : List S43}
theorem Mo.boG (h : Mo w wr go ca cb x0 x1 x2 vG vC lG lC) (hg : wr.grownBy w1 vG.ownBlock) : w1.heap[go]? = some (.cells (cE x0 x1 x2 vG vC) 31 (0, 0)) := (hg.block _ (blk_lt h.bo) (Kd.R_ne h.rg h.bo (by decide))).trans h.bo
theorem Mo.boC (h : Mo w wr go ca cb x0 x1 x2 vG vC lG lC) (hg : wr.grownBy w1 vC.ownBlock) : w1.heap[go]? = some (.cells (cE x0 x1 x2 vG vC) 31 (0, 0)) := (hg.block _ (blk_lt h.bo) (Kd.R_ne h.rc h.bo (by decide))).trans h.bo
theorem Mo.brC (h : Mo w wr go ca cb x0 x1 x2 vG vC lG lC) (hg : wr.grownBy w1 vC.ownBlock) : w1.heap[w.heap.size + 1 + 1]? = some (.cells (cE 0 0 0 (.slice none 0 0) (.slice none 0 0)) 31 (0, 0)) := (hg.block _ (blk_lt h.br) (Kd.R_ne h.rc h.br (by decide))).trans h.br
/-- what goes has grown by one -/
theorem Mo.gone (h : Mo w wr go ca cb x0 x1 x2 vG vC lG lC) (ho : Kd.R k45 45 w1 w.heap.size (fun _ => True) v1 l2) (hb : Below w.heap.size w w1) (hg : wr.grownBy w1 vG.ownBlock) : Mo w (w1.setCell ⟨go, 3, none⟩ v1) go ca cb x0 x1 x2 v1 vC l2 lC := by
  have hgo := h.hg
  have hc := grown_cell w1 go 3 v1
  refine ⟨?_, ?_, ?_, blk_set (h.boG hg) 3 _, Kd.R_grown2 ho rfl hc (fun k hk => by cases hk; exact Kd.R_ne ho (h.boG hg) (by decide)), Kd.R_grown2 (Kd.R_over h.rc h.rg (by decide) hg) rfl hc (fun k hk => by cases hk; exact Kd.R_ne (Kd.R_over h.rc h.rg (by decide) hg) (h.boG hg) (by decide)), hb.setCell (by show w.heap.size ≤ go; omega) _, hgo⟩
  · exact (hc.block _ (by have := hg.size; have := blk_lt h.ba; omega) (by simp; omega)).trans ((hg.block _ (blk_lt h.ba) (Kd.R_ne h.rg h.ba (by decide))).trans h.ba)
  · exact (hc.block _ (by have := hg.size; have := blk_lt h.bb; omega) (by simp; omega)).trans ((hg.block _ (blk_lt h.bb) (Kd.R_ne h.rg h.bb (by decide))).trans h.bb)
  · exact (hc.block _ (by have := hg.size; have := blk_lt h.br; omega) (by simp; omega)).trans ((hg.block _ (blk_lt h.br) (Kd.R_ne h.rg h.br (by decide))).trans h.br)
/-- what comes has grown -/
theorem Mo.come (h : Mo w wr go ca cb x0 x1 x2 vG vC lG lC) (ho : Kd.R k43 43 w1 w.heap.size (fun _ => True) v1 l3) (hb : Below w.heap.size w w1) (hg : wr.grownBy w1 vC.ownBlock) : Mo w (w1.setCell ⟨go, 4, none⟩ v1) go ca cb x0 x1 x2 vG v1 lG l3 := by
  have hgo := h.hg
  have hc := grown_cell w1 go 4 v1
  refine ⟨?_, ?_, ?_, blk_set (h.boC hg) 4 _, Kd.R_grown2 (Kd.R_over h.rg h.rc (by decide) hg) rfl hc (fun k hk => by cases hk; exact Kd.R_ne (Kd.R_over h.rg h.rc (by decide) hg) (h.boC hg) (by decide)), Kd.R_grown2 ho rfl hc (fun k hk => by cases hk; exact Kd.R_ne ho (h.boC hg) (by decide)), hb.setCell (by show w.heap.size ≤ go; omega) _, hgo⟩
  · exact (hc.block _ (by have := hg.size; have := blk_lt h.ba; omega) (by simp; omega)).trans ((hg.block _ (blk_lt h.ba) (Kd.R_ne h.rc h.ba (by decide))).trans h.ba)
  · exact (hc.block _ (by have := hg.size; have := blk_lt h.bb; omega) (by simp; omega)).trans ((hg.block _ (blk_lt h.bb) (Kd.R_ne h.rc h.bb (by decide))).trans h.bb)
  · exact (hc.block _ (by have := hg.size; have := blk_lt h.br; omega) (by simp; omega)).trans ((hg.block _ (blk_lt h.br) (Kd.R_ne h.rc h.br (by decide))).trans h.br)
theorem MapP.gone {b : Nat} {l : List (Int × Int)} (hm : MapP wr b l) (h : Mo w wr go ca cb x0 x1 x2 vG vC lG lC) (hg : wr.grownBy w1 vG.ownBlock) : MapP (w1.setCell ⟨go, 3, none⟩ v1) b l :=
  (hm.kept hg (hm.row h.rg)).kept (grown_cell w1 go 3 v1) (by have := hm.ne h.bo; simpa using fun e => this e.symm)
theorem MapP.come {b : Nat} {l : List (Int × Int)} (hm : MapP wr b l) (h : Mo w wr go ca cb x0 x1 x2 vG vC lG lC) (hg : wr.grownBy w1 vC.ownBlock) : MapP (w1.setCell ⟨go, 4, none⟩ v1) b l :=
  (hm.kept hg (hm.row h.rc)).kept (grown_cell w1 go 4 v1) (by have := hm.ne h.bo; simpa using fun e => this e.symm)
/-- what is told is copied into the result -/
def toldW (wr : World) (b : Nat) (x0 x1 x2 : Int) (vG vC : Value) : World := ((((wr.setCell ⟨b, 0, none⟩ (.int .i64 x0)).setCell ⟨b, 1, none⟩ (.int .i64 x1)).setCell ⟨b, 2, none⟩ (.int .u64 x2)).setCell ⟨b, 3, none⟩ vG).setCell ⟨b, 4, none⟩ vC
theorem grown_trans {w w1 w2 : World} {r : Option Nat} (h : w.grownBy w1 r) (g : w1.grownBy w2 r) : w.grownBy w2 r := ⟨g.os.trans h.os, g.tape.trans h.tape, g.output.trans h.output, Nat.le_trans h.size g.size, fun k hk hr => (g.block k (Nat.lt_of_lt_of_le hk h.size) hr).trans (h.block k hk hr)⟩
theorem toldW_grown (b : Nat) : wr.grownBy (toldW wr b x0 x1 x2 vG vC) (some b) :=
  grown_trans (grown_trans (grown_trans (grown_trans (grown_cell _ b 0 _) (grown_cell _ b 1 _)) (grown_cell _ b 2 _)) (grown_cell _ b 3 _)) (grown_cell _ b 4 _)
theorem toldW_blk {b : Nat} (h : wr.heap[b]? = some (.cells (cE 0 0 0 (.slice none 0 0) (.slice none 0 0)) 31 (0, 0))) : (toldW wr b x0 x1 x2 vG vC).heap[b]? = some (.cells (cE x0 x1 x2 vG vC) 31 (0, 0)) := by
  unfold toldW
  have h5 := blk_set (blk_set (blk_set (blk_set (blk_set h 0 (.int .i64 x0)) 1 (.int .i64 x1)) 2 (.int .u64 x2)) 3 vG) 4 vC
  rw [show (((((cE 0 0 0 (.slice none 0 0) (.slice none 0 0)).setIfInBounds 0 (.int .i64 x0)).setIfInBounds 1 (.int .i64 x1)).setIfInBounds 2 (.int .u64 x2)).setIfInBounds 3 vG).setIfInBounds 4 vC = cE x0 x1 x2 vG vC from rfl] at h5
  exact h5
theorem Mo.told (h : Mo w wr go ca cb x0 x1 x2 vG vC lG lC) {b : Nat} (hb : b = w.heap.size + 2) : (toldW wr b x0 x1 x2 vG vC).heap[b]? = some (.cells (cE x0 x1 x2 vG vC) 31 (0, 0)) ∧ Kd.R k45 45 (toldW wr b x0 x1 x2 vG vC) w.heap.size (fun _ => True) vG lG ∧ Kd.R k43 43 (toldW wr b x0 x1 x2 vG vC) w.heap.size (fun _ => True) vC lC ∧ Below w.heap.size w (toldW wr b x0 x1 x2 vG vC) := by
  have hbr : wr.heap[b]? = _ := hb ▸ h.br
  have hG := toldW_grown (wr := wr) (x0 := x0) (x1 := x1) (x2 := x2) (vG := vG) (vC := vC) b
  refine ⟨toldW_blk hbr, Kd.R_grown2 h.rg rfl hG (fun k hk => by cases hk; exact Kd.R_ne h.rg hbr (by decide)), Kd.R_grown2 h.rc rfl hG (fun k hk => by cases hk; exact Kd.R_ne h.rc hbr (by decide)), h.hb.grown hG h.hb.size (fun k e => by cases e; omega)⟩
end
set_option maxHeartbeats 32000000 in
set_option maxRecDepth 100000 in
theorem Merge_calls (a0 a1 a2 : Int) (A3 : Option Addr) (c3 : Nat) (aG : List S45) (A4 : Option Addr) (c4 : Nat) (aC : List S43) (b0 b1 b2 : Int) (B3 : Option Addr) (d3 : Nat) (bG : List S45) (B4 : Option Addr) (d4 : Nat) (bC : List S43) (w : World)
    (h3 : Kd.C k45 w A3 aG.length aG) (hc3 : aG.length ≤ c3) (h4 : Kd.C k43 w A4 aC.length aC) (hc4 : aC.length ≤ c4) (g3 : Kd.C k45 w B3 bG.length bG) (gc3 : bG.length ≤ d3) (g4 : Kd.C k43 w B4 bC.length bC) (gc4 : bC.length ≤ d4)
    (hwa : ∀ x ∈ aC, WfP (plC x)) (hwb : ∀ x ∈ bG, WfP (plG x)) (hl : aG.length ≤ 3145728 ∧ aC.length ≤ 3145728 ∧ bG.length ≤ 3145728 ∧ bC.length ≤ 3145728) :
    Calls Try.prog 11 #[.agg (cE a0 a1 a2 (.slice A3 aG.length c3) (.slice A4 aC.length c4)), .agg (cE b0 b1 b2 (.slice B3 bG.length d3) (.slice B4 bC.length d4))] w fun e w' => ∃ v3 v4, e = .returned (.agg (cE (mN a0 b0) (mN a1 b1) (mN a2 b2) v3 v4)) ∧ Kd.R k45 45 w' w.heap.size (fun _ => True) v3 (mG aG aC bG) ∧ Kd.R k43 43 w' w.heap.size (fun _ => True) v4 (mC aC bC bG) ∧ Below w.heap.size w w' := by
  have H3 := Aside0.mk h3
  have H4 := Aside0.mk h4
  have G3 := Aside0.mk g3
  have G4 := Aside0.mk g4
  have HC := Aside0.mk (And.intro (And.intro hc3 hc4) (And.intro gc3 gc4))
  have HWA := Aside0.mk hwa
  have HWB := Aside0.mk hwb
  have HL := Aside0.mk hl
  obtain ⟨nG, hnG⟩ : ∃ n, aG.length = n := ⟨_, rfl⟩
  obtain ⟨nC, hnC⟩ : ∃ n, aC.length = n := ⟨_, rfl⟩
  obtain ⟨mGn, hmG⟩ : ∃ n, bG.length = n := ⟨_, rfl⟩
  obtain ⟨mCn, hmC⟩ : ∃ n, bC.length = n := ⟨_, rfl⟩
  have HN := Aside0.mk (And.intro (And.intro hnG hnC) (And.intro hmG hmC))
  rw [hnG, hnC, hmG, hmC] at hl
  rw [hnG, hnC, hmG, hmC]
  obtain ⟨l1b, l2b, l3b, l4b⟩ := hl
  obtain ⟨W0, hW0⟩ : ∃ W0, ((w.alloc (.cells (cE a0 a1 a2 (.slice A3 nG c3) (.slice A4 nC c4)) 31)).alloc (.cells (cE b0 b1 b2 (.slice B3 mGn d3) (.slice B4 mCn d4)) 31)).alloc (.cells (cE 0 0 0 (.slice none 0 0) (.slice none 0 0)) 31) = W0 := ⟨_, rfl⟩
  have z2 := blk_new ((w.alloc (.cells (cE a0 a1 a2 (.slice A3 nG c3) (.slice A4 nC c4)) 31)).alloc (.cells (cE b0 b1 b2 (.slice B3 mGn d3) (.slice B4 mCn d4)) 31)) (.cells (cE 0 0 0 (.slice none 0 0) (.slice none 0 0)) 31)
  have z1 := blk_new (w.alloc (.cells (cE a0 a1 a2 (.slice A3 nG c3) (.slice A4 nC c4)) 31)) (.cells (cE b0 b1 b2 (.slice B3 mGn d3) (.slice B4 mCn d4)) 31)
  have z0 := blk_new w (.cells (cE a0 a1 a2 (.slice A3 nG c3) (.slice A4 nC c4)) 31)
  rw [World.size_alloc, World.size_alloc, hW0] at z2
  rw [World.size_alloc] at z1
  have z1' : W0.heap[w.heap.size + 1]? = some (.cells (cE b0 b1 b2 (.slice B3 mGn d3) (.slice B4 mCn d4)) 31 (0, 0)) := by rw [← hW0]; exact (Below.heap_alloc _ _ _ (by rw [World.size_alloc, World.size_alloc]; omega)).trans z1
  have z0' : W0.heap[w.heap.size]? = some (.cells (cE a0 a1 a2 (.slice A3 nG c3) (.slice A4 nC c4)) 31 (0, 0)) := by rw [← hW0]; exact (Below.heap_alloc _ _ _ (by rw [World.size_alloc, World.size_alloc]; omega)).trans ((Below.heap_alloc _ _ _ (by rw [World.size_alloc]; omega)).trans z0)
  have HB := Aside0.mk (show Below w.heap.size w W0 by rw [← hW0]; exact below_alloc (below_alloc (below_alloc (Below.refl _ _) _) _) _)
  have BA := Aside0.mk z0'
  have BB := Aside0.mk z1'
  have BR := Aside0.mk z2
  have HSZ := Aside0.mk (show W0.heap.size = w.heap.size + 3 by rw [← hW0, World.size_alloc, World.size_alloc, World.size_alloc])
  have HW := Aside0.mk hW0
  clear h3 hc3 h4 hc4 g3 gc3 g4 gc4 hwa hwb hnG hnC hmG hmC z0 z1 z2 z0' z1' hW0
  go_enter Try.func11, Try.ntmps11
  go_wp2_with fail
  rw [HW.out]
  have HCL := Aside0.mk (show ∀ W, Below W0.heap.size W0 W → Calls Try.prog 14 #[.slice A3 nG c3] W fun e w' => ∃ AG cG, e = .returned (.slice AG nG cG) ∧ Kd.R k45 45 w' W.heap.size (fun _ => True) (.slice AG nG cG) aG ∧ Below W.heap.size W w' from fun W hb => by
    have h := Clone_calls A3 c3 aG W (Kd.C_below H3.out (below_step HB.out hb)) HC.out.1.1 HL.out.1
    rw [HN.out.1.1] at h
    refine h.mono ?_
    rintro e w' ⟨v, rfl, hr, hb⟩
    obtain ⟨AG, cG, rfl, _, _⟩ := Kd.R_reads hr
    rw [HN.out.1.1] at hr ⊢
    exact ⟨AG, cG, rfl, hr, hb⟩)
  have y0 := blk_cell BA.out 0
  have y1 := blk_cell BA.out 1
  have y2 := blk_cell BA.out 2
  have y3 := blk_cell BA.out 3
  clear HW
  refine start_ (n := 12) (S := fun w' => w'.cell? ⟨w.heap.size, 0, none⟩ = some (.int .i64 a0) ∧ w'.cell? ⟨w.heap.size, 1, none⟩ = some (.int .i64 a1) ∧ w'.cell? ⟨w.heap.size, 2, none⟩ = some (.int .u64 a2) ∧ w'.cell? ⟨w.heap.size, 3, none⟩ = some (.slice A3 nG c3)) (ds := [11]) #[false, false, false, false, false, false, false, false, false, false, false, false] (by kernel_rfl) rfl rfl ⟨y0, y1, y2, y3⟩ (fun hHeld => ?_)
  refine pure_ (i := 0) (N := some 14) (v := ?_) (a' := ?_) #[true, false, false, false, false, false, false, false, false, false, false, false] rfl rfl (by kernel_rfl) (fun _ _ _ h => h) (Or.inl ⟨by rfl, ?_⟩) ?_ ?_
  rotate_left
  · intro w'
    go_simp
    with_reducible rfl
  rotate_left
  · simp only [Act.put, List.setIfInBounds_toArray, List.set_cons_zero, List.set_cons_succ, i64_w, i32_w]
    rfl
  refine pure_ (i := 2) (N := some 16) (v := ?_) (a' := ?_) #[true, false, true, false, false, false, false, false, false, false, false, false] rfl rfl (by kernel_rfl) (fun _ _ _ h => h) (Or.inl ⟨by rfl, ?_⟩) ?_ ?_
  rotate_left
  · intro w'
    go_simp
    with_reducible rfl
  rotate_left
  · simp only [Act.put, List.setIfInBounds_toArray, List.set_cons_zero, List.set_cons_succ, i64_w, i32_w]
    rfl
  refine pure_ (i := 4) (N := some 18) (v := ?_) (a' := ?_) #[true, false, true, false, true, false, false, false, false, false, false, false] rfl rfl (by kernel_rfl) (fun _ _ _ h => h) (Or.inl ⟨by rfl, ?_⟩) ?_ ?_
  rotate_left
  · intro w'
    go_simp
    with_reducible rfl
  rotate_left
  · simp only [Act.put, List.setIfInBounds_toArray, List.set_cons_zero, List.set_cons_succ, i64_w, i32_w]
    rfl
  refine pure_ (i := 6) (N := some 20) (v := ?_) (a' := ?_) #[true, false, true, false, true, false, true, false, false, false, false, false] rfl rfl (by kernel_rfl) (fun _ _ _ h => h) (Or.inl ⟨by rfl, ?_⟩) ?_ ?_
  rotate_left
  · intro w'
    go_simp
    with_reducible rfl
  rotate_left
  · simp only [Act.put, List.setIfInBounds_toArray, List.set_cons_zero, List.set_cons_succ, i64_w, i32_w]
    rfl
  refine take_ (i := 1) (N := some 15) (v := ?_) (a' := ?_) #[true, true, true, false, true, false, true, false, false, false, false, false] rfl rfl (by kernel_rfl) (fun _ _ _ h => h) (Or.inl ⟨by rfl, ?_⟩) hHeld ?_ ?_
  rotate_left
  · rintro w' ⟨s0, s1, s2, s3⟩
    go_simp
    with_reducible rfl
  rotate_left
  · simp only [Act.put, List.setIfInBounds_toArray, List.set_cons_zero, List.set_cons_succ, i64_w, i32_w]
    rfl
  refine take_ (i := 3) (N := some 17) (v := ?_) (a' := ?_) #[true, true, true, true, true, false, true, false, false, false, false, false] rfl rfl (by kernel_rfl) (fun _ _ _ h => h) (Or.inl ⟨by rfl, ?_⟩) hHeld ?_ ?_
  rotate_left
  · rintro w' ⟨s0, s1, s2, s3⟩
    go_simp
    with_reducible rfl
  rotate_left
  · simp only [Act.put, List.setIfInBounds_toArray, List.set_cons_zero, List.set_cons_succ, i64_w, i32_w]
    rfl
  refine take_ (i := 5) (N := some 19) (v := ?_) (a' := ?_) #[true, true, true, true, true, true, true, false, false, false, false, false] rfl rfl (by kernel_rfl) (fun _ _ _ h => h) (Or.inl ⟨by rfl, ?_⟩) hHeld ?_ ?_
  rotate_left
  · rintro w' ⟨s0, s1, s2, s3⟩
    go_simp
    with_reducible rfl
  rotate_left
  · simp only [Act.put, List.setIfInBounds_toArray, List.set_cons_zero, List.set_cons_succ, i64_w, i32_w]
    rfl
  refine take_ (i := 7) (N := some 21) (v := ?_) (a' := ?_) #[true, true, true, true, true, true, true, true, false, false, false, false] rfl rfl (by kernel_rfl) (fun _ _ _ h => h) (Or.inl ⟨by rfl, ?_⟩) hHeld ?_ ?_
  rotate_left
  · rintro w' ⟨s0, s1, s2, s3⟩
    go_simp
    with_reducible rfl
  rotate_left
  · simp only [Act.put, List.setIfInBounds_toArray, List.set_cons_zero, List.set_cons_succ, i64_w, i32_w]
    rfl
  refine join_ (σ := Nat × Option Addr × Nat) 1 #[true, true, true, true, true, true, true, true, true, true, true, false] (fun s_ => [(22, .slice s_.2.1 nG s_.2.2), (5, .pointer (some ⟨s_.1, 0, none⟩)), (23, .agg #[.int .i64 a0, .int .i64 a1, .int .u64 a2, .slice s_.2.1 nG s_.2.2, .slice none 0 0])]) (fun s_ w' => (w'.cell? ⟨w.heap.size, 0, none⟩ = some (.int .i64 a0) ∧ w'.cell? ⟨w.heap.size, 1, none⟩ = some (.int .i64 a1) ∧ w'.cell? ⟨w.heap.size, 2, none⟩ = some (.int .u64 a2) ∧ w'.cell? ⟨w.heap.size, 3, none⟩ = some (.slice A3 nG c3)) ∧ w'.heap[s_.1]? = some (.cells (cE 0 0 0 (.slice none 0 0) (.slice none 0 0)) 31 (0, 0)) ∧ Kd.R k45 45 w' w.heap.size (fun _ => True) (.slice s_.2.1 nG s_.2.2) aG ∧ Below W0.heap.size W0 w' ∧ W0.heap.size ≤ s_.1) ?_ ?_
  rotate_left
  · intro hCont
    refine two_ (i := 8) (j := 10) (Ni := some 22) (Nj := some 5) #[true, true, true, true, true, true, true, true, true, false, false, false] #[true, true, true, true, true, true, true, true, false, false, true, false] rfl rfl rfl rfl (by kernel_rfl) (by decide) (by decide) (fun K hK => ?_) (fun K hK => ?_)
    · skip
      refine goes_ Try.func14 (by kernel_rfl) rfl #[.slice A3 nG c3] (by rfl) rfl rfl (by simp only [List.map_toArray, List.map_cons, List.map_nil]; rfl) ?_
      with_reducible refine (HCL.out _ (below_drew1 (Below.refl _ _))).mono ?_
      rintro e wa ⟨AG, cG, rfl, hr, hb⟩
      refine ⟨_, rfl, ?_⟩
      have HBA := Aside0.mk (show Below W0.heap.size W0 wa from below_step (below_drew1 (Below.refl _ _)) hb)
      have HRG := Aside0.mk (Kd.R_lower hr (below_size (below_step HB.out (below_drew1 (Below.refl _ _)))))
      clear hr hb
      refine hK.out _ _ ⟨pw_cell_below HBA.out y0, pw_cell_below HBA.out y1, pw_cell_below HBA.out y2, pw_cell_below HBA.out y3⟩ (fun hHeld => ?_)
      clear hK K
      refine norm_ (a' := ?_) ?_ ?_
      rotate_left
      · show Act.put _ (some 22) _ = _
        simp only [Act.put, List.setIfInBounds_toArray, List.set_cons_zero, List.set_cons_succ, i64_w, i32_w]
        rfl
      refine pure_ (i := 9) (N := some 23) (v := ?_) (a' := ?_) #[true, true, true, true, true, true, true, true, true, true, false, false] rfl rfl (by kernel_rfl) (fun _ _ _ h => h) (Or.inl ⟨by rfl, ?_⟩) ?_ ?_
      rotate_left
      · intro w'
        go_simp
        with_reducible rfl
      rotate_left
      · simp only [Act.put, List.setIfInBounds_toArray, List.set_cons_zero, List.set_cons_succ, i64_w, i32_w]
        rfl
      refine one_ (i := 10) (N := some 5) #[true, true, true, true, true, true, true, true, true, true, true, false] rfl rfl (by kernel_rfl) (by decide) (fun K hK => ?_)
      refine box_step (by rfl) (N := 5) rfl (cs := cE 0 0 0 (.slice none 0 0) (.slice none 0 0)) (t := 31) (by first | (go_simp; done) | (go_simp; rfl)) ?_
      intro go hgo wz hbox hb
      have HBX := Aside0.mk hbox
      have HBZ := Aside0.mk (show Below W0.heap.size W0 wz from below_step HBA.out hb)
      have HGO := Aside0.mk (show W0.heap.size ≤ go by rw [hgo]; exact below_size HBA.out)
      have HRG := Aside0.mk (Kd.R_below HRG.out hb)
      clear hgo hbox hb
      refine hK.out _ _ ⟨pw_cell_below HBZ.out y0, pw_cell_below HBZ.out y1, pw_cell_below HBZ.out y2, pw_cell_below HBZ.out y3⟩ (fun hHeld => ?_)
      clear hK K
      refine norm_ (a' := ?_) ?_ ?_
      rotate_left
      · show Act.put _ (some 5) _ = _
        simp only [Act.put, List.setIfInBounds_toArray, List.set_cons_zero, List.set_cons_succ, i64_w, i32_w]
        rfl
      exact norm_ (by simp only [putAll, Act.put, List.setIfInBounds_toArray, List.set_cons_zero, List.set_cons_succ]) (hCont (go, AG, cG) _ ⟨hHeld, HBX.out, HRG.out, HBZ.out, HGO.out⟩)
    · skip
      refine box_step (by rfl) (N := 5) rfl (cs := cE 0 0 0 (.slice none 0 0) (.slice none 0 0)) (t := 31) (by first | (go_simp; done) | (go_simp; rfl)) ?_
      intro go hgo wz hbox hb
      have HBX := Aside0.mk hbox
      have HBZ := Aside0.mk (show Below W0.heap.size W0 wz from below_step (below_drew1 (Below.refl _ _)) hb)
      have HGO := Aside0.mk (show W0.heap.size ≤ go by rw [hgo]; exact below_size (below_drew1 (Below.refl _ _)))
      clear hgo hbox hb
      refine hK.out _ _ ⟨pw_cell_below HBZ.out y0, pw_cell_below HBZ.out y1, pw_cell_below HBZ.out y2, pw_cell_below HBZ.out y3⟩ (fun hHeld => ?_)
      clear hK K
      refine norm_ (a' := ?_) ?_ ?_
      rotate_left
      · show Act.put _ (some 5) _ = _
        simp only [Act.put, List.setIfInBounds_toArray, List.set_cons_zero, List.set_cons_succ, i64_w, i32_w]
        rfl
      refine one_ (i := 8) (N := some 22) #[true, true, true, true, true, true, true, true, true, false, true, false] rfl rfl (by kernel_rfl) (by decide) (fun K hK => ?_)
      refine goes_ Try.func14 (by kernel_rfl) rfl #[.slice A3 nG c3] (by rfl) rfl rfl (by simp only [List.map_toArray, List.map_cons, List.map_nil]; rfl) ?_
      with_reducible refine (HCL.out _ HBZ.out).mono ?_
      rintro e wa ⟨AG, cG, rfl, hr, hb⟩
      refine ⟨_, rfl, ?_⟩
      have HBA := Aside0.mk (show Below W0.heap.size W0 wa from below_step HBZ.out hb)
      have HRG := Aside0.mk (Kd.R_lower hr (below_size (below_step HB.out HBZ.out)))
      have HBX := Aside0.mk (blk_below HBX.out hb)
      clear hr hb
      refine hK.out _ _ ⟨pw_cell_below HBA.out y0, pw_cell_below HBA.out y1, pw_cell_below HBA.out y2, pw_cell_below HBA.out y3⟩ (fun hHeld => ?_)
      clear hK K
      refine norm_ (a' := ?_) ?_ ?_
      rotate_left
      · show Act.put _ (some 22) _ = _
        simp only [Act.put, List.setIfInBounds_toArray, List.set_cons_zero, List.set_cons_succ, i64_w, i32_w]
        rfl
      refine pure_ (i := 9) (N := some 23) (v := ?_) (a' := ?_) #[true, true, true, true, true, true, true, true, true, true, true, false] rfl rfl (by kernel_rfl) (fun _ _ _ h => h) (Or.inl ⟨by rfl, ?_⟩) ?_ ?_
      rotate_left
      · intro w'
        go_simp
        with_reducible rfl
      rotate_left
      · simp only [Act.put, List.setIfInBounds_toArray, List.set_cons_zero, List.set_cons_succ, i64_w, i32_w]
        rfl
      exact norm_ (by simp only [putAll, Act.put, List.setIfInBounds_toArray, List.set_cons_zero, List.set_cons_succ]) (hCont (go, AG, cG) _ ⟨hHeld, HBX.out, HRG.out, HBA.out, HGO.out⟩)
  rintro ⟨go, AG, cG⟩ wf ⟨hS_, h1_, h2_, h3_, h4_⟩
  have HBX := Aside0.mk (show wf.heap[go]? = some (.cells (cE 0 0 0 (.slice none 0 0) (.slice none 0 0)) 31 (0, 0)) from h1_)
  have HRG := Aside0.mk (show Kd.R k45 45 wf w.heap.size (fun _ => True) (.slice AG nG cG) aG from h2_)
  have HBA := Aside0.mk h3_
  have HGO := Aside0.mk (show W0.heap.size ≤ go from h4_)
  clear h1_ h2_ h3_ h4_
  have o0 : wf.cell? ⟨go, 0, none⟩ = some (.int .i64 0) := (blk_cell HBX.out 0).trans rfl
  have o1 : wf.cell? ⟨go, 1, none⟩ = some (.int .i64 0) := (blk_cell HBX.out 1).trans rfl
  have o2 : wf.cell? ⟨go, 2, none⟩ = some (.int .u64 0) := (blk_cell HBX.out 2).trans rfl
  have o3 : wf.cell? ⟨go, 3, none⟩ = some (.slice none 0 0) := (blk_cell HBX.out 3).trans rfl
  have o4 : wf.cell? ⟨go, 4, none⟩ = some (.slice none 0 0) := (blk_cell HBX.out 4).trans rfl
  have q0 := blk_frozen HBX.out 0
  have q1 := blk_frozen HBX.out 1
  have q2 := blk_frozen HBX.out 2
  have q3 := blk_frozen HBX.out 3
  have q4 := blk_frozen HBX.out 4
  have hx0_ := trivial
  have hHeld := hS_
  refine norm_ (a' := ?_) ?_ ?_
  rotate_left
  · simp only [putAll, Act.put, List.setIfInBounds_toArray, List.set_cons_zero, List.set_cons_succ]
    rfl
  refine last_ (i := 11) (N := none) #[true, true, true, true, true, true, true, true, true, true, true, true] rfl rfl (by kernel_rfl) (by decide) (fun K hK => ?_)
  refine skip_ (w1 := ?_) (by rfl) rfl ?_ ?_
  rotate_left
  · go_simp
    rfl
  refine hK.out _ _ ?_
  clear hK K
  refine done_ (by kernel_rfl) ?_
  clear y0 y1 y2 y3 o0 o1 o2 o3 o4 q0 q1 q2 q3 q4 hx0_
  have HMO := Aside0.mk (show Mo w (((((wf.setCell ⟨go, 0, none⟩ (.int .i64 a0)).setCell ⟨go, 1, none⟩ (.int .i64 a1)).setCell ⟨go, 2, none⟩ (.int .u64 a2)).setCell ⟨go, 3, none⟩ (.slice AG nG cG)).setCell ⟨go, 4, none⟩ (.slice none 0 0)) go (cE a0 a1 a2 (.slice A3 nG c3) (.slice A4 nC c4)) (cE b0 b1 b2 (.slice B3 mGn d3) (.slice B4 mCn d4)) a0 a1 a2 (.slice AG nG cG) (.slice none 0 0) aG [] from by
    have hgo : w.heap.size + 3 ≤ go := by have h1 := HSZ.out; have h2 := HGO.out; omega
    have hsz : w.heap.size + 3 ≤ wf.heap.size := by have h1 := HSZ.out; have h2 := HBA.out.size; omega
    have hfar : ∀ k, k ≠ go → (((((wf.setCell ⟨go, 0, none⟩ (.int .i64 a0)).setCell ⟨go, 1, none⟩ (.int .i64 a1)).setCell ⟨go, 2, none⟩ (.int .u64 a2)).setCell ⟨go, 3, none⟩ (.slice AG nG cG)).setCell ⟨go, 4, none⟩ (.slice none 0 0)).heap[k]? = wf.heap[k]? := fun k hk => (Below.heap_setCell _ _ _ k hk).trans ((Below.heap_setCell _ _ _ k hk).trans ((Below.heap_setCell _ _ _ k hk).trans ((Below.heap_setCell _ _ _ k hk).trans (Below.heap_setCell _ _ _ k hk))))
    refine ⟨(hfar _ (by omega)).trans (blk_below BA.out HBA.out), (hfar _ (by omega)).trans (blk_below BB.out HBA.out), (hfar _ (by omega)).trans (blk_below BR.out HBA.out), ?_, ?_, Kd.R_nil _ _ _ _ _, ?_, hgo⟩
    · exact blk_set (blk_set (blk_set (blk_set (blk_set HBX.out 0 _) 1 _) 2 _) 3 _) 4 _
    · have hE := Kd.R_ne HRG.out HBX.out (by decide)
      refine Kd.R_grown2 (w1 := _) HRG.out rfl (row := some go) ⟨rfl, rfl, rfl, by simp [World.setCell], fun k _ hk => hfar k (fun e => hk (by rw [e]))⟩ (fun k hk => by cases hk; exact hE)
    · exact ((((((below_step HB.out HBA.out).setCell (p := ⟨go, 0, none⟩) (by show w.heap.size ≤ go; omega) _).setCell (p := ⟨go, 1, none⟩) (by show w.heap.size ≤ go; omega) _).setCell (p := ⟨go, 2, none⟩) (by show w.heap.size ≤ go; omega) _).setCell (p := ⟨go, 3, none⟩) (by show w.heap.size ≤ go; omega) _).setCell (p := ⟨go, 4, none⟩) (by show w.heap.size ≤ go; omega) _))
  obtain ⟨W1, hW1⟩ : ∃ W1, (((((wf.setCell ⟨go, 0, none⟩ (.int .i64 a0)).setCell ⟨go, 1, none⟩ (.int .i64 a1)).setCell ⟨go, 2, none⟩ (.int .u64 a2)).setCell ⟨go, 3, none⟩ (.slice AG nG cG)).setCell ⟨go, 4, none⟩ (.slice none 0 0)) = W1 := ⟨_, rfl⟩
  rw [hW1] at HMO ⊢
  have s0 := (blk_cell HMO.out.bb 0).trans (show _ = some (.int .i64 b0) from rfl)
  clear hW1 BA BB BR HBX HRG HBA HGO hS_ hHeld HB
  go_upto_if 26 with (fail)
  go_cut [] (fun wc => Aside0 (Mo w wc go (cE a0 a1 a2 (.slice A3 nG c3) (.slice A4 nC c4)) (cE b0 b1 b2 (.slice B3 mGn d3) (.slice B4 mCn d4)) (mN a0 b0) (a1) (a2) (.slice AG nG cG) (.slice none 0 0) (aG) ([])))
  case first =>
    by_cases hb : b0 = 0
    · have e1 : (b0 == 0) = true := by simp [hb]
      have e2 : (b0 != 0) = false := by simp [hb]
      have HE := Aside0.mk hb
      clear hb
      (first | rw [e1] | skip)
      go_wp2
      go_meet
      case rel => exact ⟨by have h := HMO.out; rw [show mN a0 b0 = a0 from if_pos HE.out]; exact h⟩
    · have e1 : (b0 == 0) = false := by simp [hb]
      have e2 : (b0 != 0) = true := by simp [hb]
      have HE := Aside0.mk hb
      have s0 := (blk_cell HMO.out.bb 0).trans (show _ = some (.int .i64 b0) from rfl)
      have s1 := (blk_cell HMO.out.bo 0).trans (show _ = some (.int .i64 (a0)) from rfl)
      have s2 := blk_frozen HMO.out.bo 0
      clear hb
      (first | rw [e1] | skip)
      go_wp2
      go_meet
      case rel => exact ⟨by rw [show mN a0 b0 = b0 from if_neg HE.out]; exact HMO.out.cell 0 _ rfl⟩
  case rest =>
    clear HMO s0
    have HMO := Aside0.mk hcut.out
    have s0 := (blk_cell HMO.out.bb 1).trans (show _ = some (.int .i64 b1) from rfl)
    clear hcut
    go_upto_if 32 with (fail)
    go_cut [] (fun wc => Aside0 (Mo w wc go (cE a0 a1 a2 (.slice A3 nG c3) (.slice A4 nC c4)) (cE b0 b1 b2 (.slice B3 mGn d3) (.slice B4 mCn d4)) (mN a0 b0) (mN a1 b1) (a2) (.slice AG nG cG) (.slice none 0 0) (aG) ([])))
    case first =>
      by_cases hb : b1 = 0
      · have e1 : (b1 == 0) = true := by simp [hb]
        have e2 : (b1 != 0) = false := by simp [hb]
        have HE := Aside0.mk hb
        clear hb
        (first | rw [e1] | skip)
        go_wp2
        go_meet
        case rel => exact ⟨by have h := HMO.out; rw [show mN a1 b1 = a1 from if_pos HE.out]; exact h⟩
      · have e1 : (b1 == 0) = false := by simp [hb]
        have e2 : (b1 != 0) = true := by simp [hb]
        have HE := Aside0.mk hb
        have s1 := (blk_cell HMO.out.bo 1).trans (show _ = some (.int .i64 (a1)) from rfl)
        have s2 := blk_frozen HMO.out.bo 1
        clear hb
        (first | rw [e1] | skip)
        go_wp2
        go_meet
        case rel => exact ⟨by rw [show mN a1 b1 = b1 from if_neg HE.out]; exact HMO.out.cell 1 _ rfl⟩
    case rest =>
      clear HMO s0
      have HMO := Aside0.mk hcut.out
      have s0 := (blk_cell HMO.out.bb 2).trans (show _ = some (.int .u64 b2) from rfl)
      clear hcut
      go_upto_if 38 with (fail)
      go_cut [] (fun wc => Aside0 (Mo w wc go (cE a0 a1 a2 (.slice A3 nG c3) (.slice A4 nC c4)) (cE b0 b1 b2 (.slice B3 mGn d3) (.slice B4 mCn d4)) (mN a0 b0) (mN a1 b1) (mN a2 b2) (.slice AG nG cG) (.slice none 0 0) (aG) ([])))
      case first =>
        by_cases hb : b2 = 0
        · have e1 : (b2 == 0) = true := by simp [hb]
          have e2 : (b2 != 0) = false := by simp [hb]
          have HE := Aside0.mk hb
          clear hb
          (first | rw [e1] | skip)
          go_wp2
          go_meet
          case rel => exact ⟨by have h := HMO.out; rw [show mN a2 b2 = a2 from if_pos HE.out]; exact h⟩
        · have e1 : (b2 == 0) = false := by simp [hb]
          have e2 : (b2 != 0) = true := by simp [hb]
          have HE := Aside0.mk hb
          have s1 := (blk_cell HMO.out.bo 2).trans (show _ = some (.int .u64 (a2)) from rfl)
          have s2 := blk_frozen HMO.out.bo 2
          clear hb
          (first | rw [e1] | skip)
          go_wp2
          go_meet
          case rel => exact ⟨by rw [show mN a2 b2 = b2 from if_neg HE.out]; exact HMO.out.cell 2 _ rfl⟩
      case rest =>
        clear HMO s0
        have HMO := Aside0.mk hcut.out
        clear hcut
        have hmm := @run_makeMap Try.prog
        have s4 := (blk_cell (HMO.out.below (below_alloc (Below.refl _ _) (.map #[] 0))).ba 4).trans (show _ = some (.slice A4 nC c4) from rfl)
        obtain ⟨X0, hX0⟩ : ∃ X, mN a0 b0 = X := ⟨_, rfl⟩
        obtain ⟨X1, hX1⟩ : ∃ X, mN a1 b1 = X := ⟨_, rfl⟩
        obtain ⟨X2, hX2⟩ : ∃ X, mN a2 b2 = X := ⟨_, rfl⟩
        rw [hX0, hX1, hX2] at HMO
        have HX0 := Aside0.mk hX0
        have HX1 := Aside0.mk hX1
        have HX2 := Aside0.mk hX2
        clear hX0 hX1 hX2
        have hmc : w.heap.size ≤ wc.heap.size := HMO.out.hb.size
        have HM1 := Aside0.mk (MapP.made wc)
        have HMO := Aside0.mk (HMO.out.below (below_alloc (Below.refl _ _) (.map #[] 0)))
        go_wp2_with fail
        clear s4 hmm
        generalize wc.alloc (.map #[] 0) = W2 at HMO HM1 ⊢
        generalize wc.heap.size = mc at HM1 hmc ⊢
        have HMC := Aside0.mk hmc
        clear hmc
        go_loopg [46] (1 + nC) (fun kq v46 wr => ∃ i : Nat, v46 = .int .i64 (i : Int) ∧ i ≤ nC ∧ nC - i < kq ∧ Aside0 (Mo w wr go (cE a0 a1 a2 (.slice A3 nG c3) (.slice A4 nC c4)) (cE b0 b1 b2 (.slice B3 mGn d3) (.slice B4 mCn d4)) X0 X1 X2 (.slice AG nG cG) (.slice none 0 0) (aG) ([])) ∧ Aside0 (MapP wr mc ((aC.take i).map plC)))
        case atStart => exact ⟨0, rfl, Nat.zero_le _, by omega, HMO, HM1⟩
        case round =>
          clear HMO HM1
          obtain ⟨i, rfl, hin, hkq, HMO, HM⟩ := hrel
          cases gk with
          | zero => omega
          | succ gk1 =>
          by_cases hi : i < nC
          · have b1' : decide ((i : Int) < (nC : Int)) = true := decide_eq_true (by omega)
            have b1n : decide (i < nC) = true := decide_eq_true hi
            have hio : i < aC.length := by rw [HN.out.1.2]; exact hi
            obtain ⟨ad, hA, f0, f1, f2, f3, f4, f5, f6⟩ := at_T43 H4.out (i : Int) (by omega) (by omega)
            subst hA
            have hrd : rd_T43 aC (i : Int) = aC[i] := by unfold rd_T43; simp [hio]
            rw [hrd, Int.toNat_natCast] at f0 f1 f2 f3 f4 f5 f6
            have htk : (aC.take (i + 1)).map plC = (aC.take i).map plC ++ [plC aC[i]] := by rw [List.take_add_one, List.getElem?_eq_getElem hio, List.map_append]; rfl
            have hwf := HWA.out aC[i] (List.getElem_mem hio)
            obtain ⟨x, hx⟩ : ∃ x, aC[i] = x := ⟨_, rfl⟩
            rw [hx] at f0 f1 f2 f3 f4 f5 f6 htk hwf
            obtain ⟨xl, xn, xs, xa, xb, xc, xd⟩ := x
            simp only [] at f0 f1 f2 f3 f4 f5 f6
            have HWF := Aside0.mk (show WfP (xl, xn) from hwf)
            have HTK := Aside0.mk htk
            obtain ⟨cn, hcn⟩ : ∃ cn, ((aC.take i).map plC).count (xl, xn) = cn := ⟨_, rfl⟩
            have hcb : cn ≤ 3145728 := by rw [← hcn]; refine Nat.le_trans List.count_le_length ?_; rw [List.length_map, List.length_take]; omega
            have HCN := Aside0.mk hcn
            have hb := HMO.out.hb
            have g0 := (hb.cell (World.block_lt_of_cell? w _ f0)).trans f0
            have g1 := (hb.cell (World.block_lt_of_cell? w _ f1)).trans f1
            have g2 := (hb.cell (World.block_lt_of_cell? w _ f2)).trans f2
            have g3' := (hb.cell (World.block_lt_of_cell? w _ f3)).trans f3
            have g4' := (hb.cell (World.block_lt_of_cell? w _ f4)).trans f4
            have g5 := (hb.cell (World.block_lt_of_cell? w _ f5)).trans f5
            have g6 := (hb.cell (World.block_lt_of_cell? w _ f6)).trans f6
            clear hio hrd htk hwf hx hcn f0 f1 f2 f3 f4 f5 f6 hb
            go_wp2_with fail
            have HNB := Aside0.mk (blk_new wr (.cells #[.int .i64 xl, .int .i64 xn, .int .i64 xs, .string xa, .string xb, .int .u64 xc, .int .u64 xd] 43))
            have HMO := Aside0.mk (HMO.out.below (below_alloc (Below.refl _ _) (.cells #[.int .i64 xl, .int .i64 xn, .int .i64 xs, .string xa, .string xb, .int .u64 xc, .int .u64 xd] 43)))
            have HM := Aside0.mk (HM.out.below (below_alloc (Below.refl _ _) (.cells #[.int .i64 xl, .int .i64 xn, .int .i64 xs, .string xa, .string xb, .int .u64 xc, .int .u64 xd] 43)))
            clear g0 g1 g2 g3' g4' g5 g6
            generalize wr.alloc (.cells #[.int .i64 xl, .int .i64 xn, .int .i64 xs, .string xa, .string xb, .int .u64 xc, .int .u64 xd] 43) = wb at HNB HMO HM ⊢
            generalize wr.heap.size = bx at HNB ⊢
            have k0 := blk_cell HNB.out 0
            have k1 := blk_cell HNB.out 1
            have k2 := blk_cell HNB.out 2
            have k3 := blk_cell HNB.out 3
            have k4 := blk_cell HNB.out 4
            have k5 := blk_cell HNB.out 5
            have k6 := blk_cell HNB.out 6
            have HLU := Aside0.mk (fun (W : World) (hb : Below wb.heap.size wb W) => show (Instr.lookup 47 (.map (some mc)) (.agg #[.int .i64 xl, .int .i64 xn]) false).run Try.prog W = .ok (.int .i64 (cn : Int)) W by
              have := (HM.out.below hb).lookup HWF.out
              rw [HCN.out] at this
              exact this)
            have hwc : wrap64 ((cn : Int) + 1) = (cn : Int) + 1 := by unfold wrap64; omega
            refine start_ (n := 8) (S := fun w' => w'.cell? ⟨bx, 0, none⟩ = some (.int .i64 xl) ∧ w'.cell? ⟨bx, 1, none⟩ = some (.int .i64 xn) ∧ w'.cell? ⟨bx, 2, none⟩ = some (.int .i64 xs) ∧ w'.cell? ⟨bx, 3, none⟩ = some (.string xa) ∧ w'.cell? ⟨bx, 4, none⟩ = some (.string xb) ∧ w'.cell? ⟨bx, 5, none⟩ = some (.int .u64 xc) ∧ w'.cell? ⟨bx, 6, none⟩ = some (.int .u64 xd) ∧ (Instr.lookup 47 (.map (some mc)) (.agg #[.int .i64 xl, .int .i64 xn]) false).run Try.prog w' = .ok (.int .i64 (cn : Int)) w') (ds := [7]) #[false, false, false, false, false, false, false, false] (by kernel_rfl) rfl rfl ⟨k0, k1, k2, k3, k4, k5, k6, HLU.out _ (below_drew1 (Below.refl _ _))⟩ (fun hHeld => ?_)
            refine pure_ (i := 0) (N := some 50) (v := ?_) (a' := ?_) #[true, false, false, false, false, false, false, false] rfl rfl (by kernel_rfl) (fun _ _ _ h => h) (Or.inl ⟨by rfl, ?_⟩) ?_ ?_
            rotate_left
            · intro w'
              go_simp
              with_reducible rfl
            rotate_left
            · simp only [Act.put, List.setIfInBounds_toArray, List.set_cons_zero, List.set_cons_succ, i64_w, i32_w]
              rfl
            refine take_ (i := 1) (N := some 51) (v := ?_) (a' := ?_) #[true, true, false, false, false, false, false, false] rfl rfl (by kernel_rfl) (fun _ _ _ h => h) (Or.inl ⟨by rfl, ?_⟩) hHeld ?_ ?_
            rotate_left
            · rintro w' ⟨s0, s1, s2, s3, s4, s5, s6, s7⟩
              go_simp
              with_reducible rfl
            rotate_left
            · simp only [Act.put, List.setIfInBounds_toArray, List.set_cons_zero, List.set_cons_succ, i64_w, i32_w]
              rfl
            refine one_ (i := 2) (N := some 52) #[true, true, true, false, false, false, false, false] rfl rfl (by kernel_rfl) (by decide) (fun K hK => ?_)
            refine goes_ Try.func15 (by kernel_rfl) rfl #[.agg #[.int .i64 xl, .int .i64 xn, .int .i64 xs, .string xa, .string xb, .int .u64 xc, .int .u64 xd]] (by rfl) rfl rfl (by simp only [List.map_toArray, List.map_cons, List.map_nil]; rfl) ?_
            with_reducible refine (edit_placeOf.calls xl xn xs xa xb xc xd xl xn _ rfl).mono ?_
            rintro e w3 ⟨rfl, hb⟩
            refine ⟨_, rfl, ?_⟩
            have HD3 := Aside0.mk (show Below wb.heap.size wb w3 from below_step (below_drew1 (Below.refl _ _)) hb)
            clear hb
            refine hK.out _ _ ⟨pw_cell_below HD3.out k0, pw_cell_below HD3.out k1, pw_cell_below HD3.out k2, pw_cell_below HD3.out k3, pw_cell_below HD3.out k4, pw_cell_below HD3.out k5, pw_cell_below HD3.out k6, HLU.out _ HD3.out⟩ (fun hHeld => ?_)
            clear hK K
            refine norm_ (a' := ?_) ?_ ?_
            rotate_left
            · show Act.put _ (some 52) _ = _
              simp only [Act.put, List.setIfInBounds_toArray, List.set_cons_zero, List.set_cons_succ, i64_w, i32_w]
              rfl
            refine take_ (i := 3) (N := some 53) (v := ?_) (a' := ?_) #[true, true, true, true, false, false, false, false] rfl rfl (by kernel_rfl) (fun _ _ _ h => h) (Or.inl ⟨by rfl, ?_⟩) hHeld ?_ ?_
            rotate_left
            · rintro w' ⟨s0, s1, s2, s3, s4, s5, s6, s7⟩
              go_simp
              with_reducible rfl
            rotate_left
            · simp only [Act.put, List.setIfInBounds_toArray, List.set_cons_zero, List.set_cons_succ, i64_w, i32_w]
              rfl
            refine pure_ (i := 4) (N := some 54) (v := ?_) (a' := ?_) #[true, true, true, true, true, false, false, false] rfl rfl (by kernel_rfl) (fun _ _ _ h => h) (Or.inl ⟨by rfl, ?_⟩) ?_ ?_
            rotate_left
            · intro w'
              go_simp
              with_reducible rfl
            rotate_left
            · simp only [Act.put, List.setIfInBounds_toArray, List.set_cons_zero, List.set_cons_succ, i64_w, i32_w]
              rfl
            refine one_ (i := 5) (N := some 55) #[true, true, true, true, true, true, false, false] rfl rfl (by kernel_rfl) (by decide) (fun K hK => ?_)
            obtain ⟨v0, st, wm, hme, hgm, wn, hes, hgn, hmn⟩ := (HM.out.below HD3.out).inc HWF.out (by rw [List.length_map, List.length_take]; omega)
            rw [HCN.out] at hes
            have HLM := Aside0.mk ((HM.out.below HD3.out).stay HWF.out (by rw [List.length_map, List.length_take]; omega) hme)
            have HGM := Aside0.mk hgm
            have HNM := Aside0.mk ((hgm.block bx (blk_lt (blk_below HNB.out HD3.out)) (by have := (HM.out.below HD3.out).ne (blk_below HNB.out HD3.out); simpa using this)).trans (blk_below HNB.out HD3.out))
            simp only [pkey] at hme
            have HGN := Aside0.mk hgn
            have HMN := Aside0.mk hmn
            clear hgm hgn hmn
            refine value_ (w1 := wm) (v := .tuple #[v0, .int .i64 (st : Int)]) (by rfl) rfl ?_ ?_
            · first | (go_simp; done) | (go_simp; rfl)
            refine hK.out _ _ ⟨(blk_cell HNM.out 0).trans rfl, (blk_cell HNM.out 1).trans rfl, (blk_cell HNM.out 2).trans rfl, (blk_cell HNM.out 3).trans rfl, (blk_cell HNM.out 4).trans rfl, (blk_cell HNM.out 5).trans rfl, (blk_cell HNM.out 6).trans rfl, (by have h := HLM.out.lookup HWF.out; rw [HCN.out] at h; exact h)⟩ (fun hHeld => ?_)
            clear hK K
            refine norm_ (a' := ?_) ?_ ?_
            rotate_left
            · show Act.put _ (some 55) _ = _
              simp only [Act.put, List.setIfInBounds_toArray, List.set_cons_zero, List.set_cons_succ, i64_w, i32_w]
              rfl
            refine pure_ (i := 6) (N := some 56) (v := ?_) (a' := ?_) #[true, true, true, true, true, true, true, false] rfl rfl (by kernel_rfl) (fun _ _ _ h => h) (Or.inl ⟨by rfl, ?_⟩) ?_ ?_
            rotate_left
            · intro w'
              go_simp
              with_reducible rfl
            rotate_left
            · simp only [Act.put, List.setIfInBounds_toArray, List.set_cons_zero, List.set_cons_succ, i64_w, i32_w]
              rfl
            refine last_ (i := 7) (N := none) #[true, true, true, true, true, true, true, true] rfl rfl (by kernel_rfl) (by decide) (fun K hK => ?_)
            simp only [goInt] at hes
            refine skip_ (w1 := wn) (by rfl) rfl ?_ ?_
            · first | (go_simp; done) | (go_simp; rfl) | (trace_state; fail)
            refine hK.out _ _ ?_
            clear hK K
            refine done_ (by kernel_rfl) ?_
            clear hwc k0 k1 k2 k3 k4 k5 k6 hHeld hme hes
            have HMO2 := Aside0.mk ((HMO.out.below HD3.out).map (HM.out.below HD3.out) HMC.out HGN.out)
            have HMP2 := Aside0.mk (show MapP wn mc ((aC.take (i + 1)).map plC) by rw [HTK.out]; exact HMN.out)
            clear HMO HM HLU HGM HNM HLM HGN HMN HTK HCN HD3 HNB
            go_wp2
            go_roundg gk1
            case measure => omega
            case rel => exact ⟨i + 1, by go_num, by omega, by omega, HMO2, HMP2⟩
          · obtain rfl : nC = i := by omega
            have b1' : decide ((nC : Int) < (nC : Int)) = false := decide_eq_false (by omega)
            have b1n : decide (nC < nC) = false := decide_eq_false (by omega)
            have HM := Aside0.mk (show MapP wr mc (aC.map plC) by have h := HM.out; rwa [List.take_of_length_le (by have := HN.out.1.2; omega)] at h)
            have hmm := @run_makeMap Try.prog
            have s4 := (blk_cell (HMO.out.below (below_alloc (Below.refl _ _) (.map #[] 0))).bb 3).trans (show _ = some (.slice B3 mGn d3) from rfl)
            have HNE := Aside0.mk (show mc ≠ wr.heap.size from Nat.ne_of_lt HM.out.lt)
            have hmc : w.heap.size ≤ wr.heap.size := HMO.out.hb.size
            have HML := Aside0.mk (MapP.made wr)
            have HMO := Aside0.mk (HMO.out.below (below_alloc (Below.refl _ _) (.map #[] 0)))
            have HM := Aside0.mk (HM.out.below (below_alloc (Below.refl _ _) (.map #[] 0)))
            clear hkq
            go_wp2_with fail
            clear s4 hmm
            generalize wr.alloc (.map #[] 0) = W3 at HMO HM HML ⊢
            generalize wr.heap.size = ml at HML HNE hmc ⊢
            have HMC2 := Aside0.mk hmc
            clear hmc
            go_loopg [62] (1 + mGn) (fun kq v62 wr => ∃ (i : Nat) (Ag : Option Addr) (ng cg : Nat), v62 = .int .i64 (i : Int) ∧ i ≤ mGn ∧ mGn - i < kq ∧ Aside0 (Mo w wr go (cE a0 a1 a2 (.slice A3 nG c3) (.slice A4 nC c4)) (cE b0 b1 b2 (.slice B3 mGn d3) (.slice B4 mCn d4)) X0 X1 X2 (.slice Ag ng cg) (.slice none 0 0) (aG ++ (bG.take i).filter fun g => decide ((aC.map plC).count (plG g) = 0)) ([])) ∧ Aside0 (MapP wr mc (aC.map plC)) ∧ Aside0 (MapP wr ml ((bG.take i).map plG)))
            case atStart => exact ⟨0, AG, nG, cG, rfl, Nat.zero_le _, by omega, ⟨by have h := HMO.out; rw [List.take_zero, List.filter_nil, List.append_nil]; exact h⟩, HM, HML⟩
            case round =>
              clear HMO HM HML
              obtain ⟨i, Ag, ng, cg, rfl, hin, hkq, HMO, HM, HML⟩ := hrel
              cases gk with
              | zero => omega
              | succ gk1 =>
              by_cases hi : i < mGn
              · have b2' : decide ((i : Int) < (mGn : Int)) = true := decide_eq_true (by omega)
                have b2n : decide (i < mGn) = true := decide_eq_true hi
                have hio : i < bG.length := by rw [HN.out.2.1]; exact hi
                obtain ⟨ad, hA, f0, f1⟩ := at_T45 G3.out (i : Int) (by omega) (by omega)
                subst hA
                have hrd : rd_T45 bG (i : Int) = bG[i] := by unfold rd_T45; simp [hio]
                rw [hrd, Int.toNat_natCast] at f0 f1
                have htk : (bG.take (i + 1)).map plG = (bG.take i).map plG ++ [plG bG[i]] := by rw [List.take_add_one, List.getElem?_eq_getElem hio, List.map_append]; rfl
                have hft : (aG ++ (bG.take (i + 1)).filter fun g => decide ((aC.map plC).count (plG g) = 0)) = (aG ++ (bG.take i).filter fun g => decide ((aC.map plC).count (plG g) = 0)) ++ (if (aC.map plC).count (plG bG[i]) = 0 then [bG[i]] else []) := by
                  rw [List.take_add_one, List.getElem?_eq_getElem hio, List.filter_append, List.append_assoc]
                  by_cases hc : (aC.map plC).count (plG bG[i]) = 0 <;> simp [hc]
                have hwf := HWB.out bG[i] (List.getElem_mem hio)
                obtain ⟨x, hx⟩ : ∃ x, bG[i] = x := ⟨_, rfl⟩
                rw [hx] at f0 f1 htk hwf hft
                obtain ⟨xl, xn⟩ := x
                simp only [] at f0 f1
                have HWF := Aside0.mk (show WfP (xl, xn) from hwf)
                have HTK := Aside0.mk (show (bG.take (i + 1)).map plG = (bG.take i).map plG ++ [(xl, xn)] from htk)
                obtain ⟨cn, hcn⟩ : ∃ cn, ((bG.take i).map plG).count (xl, xn) = cn := ⟨_, rfl⟩
                obtain ⟨cc, hcc⟩ : ∃ cc, (aC.map plC).count (xl, xn) = cc := ⟨_, rfl⟩
                have hcb : cn ≤ 3145728 := by rw [← hcn]; refine Nat.le_trans List.count_le_length ?_; rw [List.length_map, List.length_take]; omega
                have hft2 : (aG ++ (bG.take (i + 1)).filter fun g => decide ((aC.map plC).count (plG g) = 0)) = (aG ++ (bG.take i).filter fun g => decide ((aC.map plC).count (plG g) = 0)) ++ (if cc = 0 then [⟨xl, xn⟩] else []) := by rw [← hcc]; exact hft
                have hlg : (aG ++ (bG.take i).filter fun g => decide ((aC.map plC).count (plG g) = 0)).length ≤ 6291456 := by
                  rw [List.length_append]
                  have h1 := HL.out.1
                  have h2 : ((bG.take i).filter fun g => decide ((aC.map plC).count (plG g) = 0)).length ≤ (bG.take i).length := List.length_filter_le _ _
                  rw [List.length_take] at h2
                  omega
                have HFT := Aside0.mk hft2
                have HLG := Aside0.mk hlg
                have HCN := Aside0.mk hcn
                have HCC := Aside0.mk hcc
                have hb := HMO.out.hb
                have g0 := (hb.cell (World.block_lt_of_cell? w _ f0)).trans f0
                have g1 := (hb.cell (World.block_lt_of_cell? w _ f1)).trans f1
                clear hio hrd htk hft hft2 hlg hwf hx hcn hcc f0 f1 hb
                go_wp2_with fail
                have HNB := Aside0.mk (blk_new wr (.cells #[.int .i64 xl, .int .i64 xn] 45))
                have HMO := Aside0.mk (HMO.out.below (below_alloc (Below.refl _ _) (.cells #[.int .i64 xl, .int .i64 xn] 45)))
                have HM := Aside0.mk (HM.out.below (below_alloc (Below.refl _ _) (.cells #[.int .i64 xl, .int .i64 xn] 45)))
                have HML := Aside0.mk (HML.out.below (below_alloc (Below.refl _ _) (.cells #[.int .i64 xl, .int .i64 xn] 45)))
                clear g0 g1
                generalize wr.alloc (.cells #[.int .i64 xl, .int .i64 xn] 45) = wb at HNB HMO HM HML ⊢
                generalize wr.heap.size = bx at HNB ⊢
                have k0 := blk_cell HNB.out 0
                have k1 := blk_cell HNB.out 1
                have HLU := Aside0.mk (fun (W : World) (hb : Below wb.heap.size wb W) => show (Instr.lookup 47 (.map (some ml)) (.agg #[.int .i64 xl, .int .i64 xn]) false).run Try.prog W = .ok (.int .i64 (cn : Int)) W by
                  have := (HML.out.below hb).lookup HWF.out
                  rw [HCN.out] at this
                  exact this)
                have hwc : wrap64 ((cn : Int) + 1) = (cn : Int) + 1 := by unfold wrap64; omega
                refine start_ (n := 7) (S := fun w' => w'.cell? ⟨bx, 0, none⟩ = some (.int .i64 xl) ∧ w'.cell? ⟨bx, 1, none⟩ = some (.int .i64 xn) ∧ (Instr.lookup 47 (.map (some ml)) (.agg #[.int .i64 xl, .int .i64 xn]) false).run Try.prog w' = .ok (.int .i64 (cn : Int)) w') (ds := [6]) #[false, false, false, false, false, false, false] (by kernel_rfl) rfl rfl ⟨k0, k1, HLU.out _ (below_drew1 (Below.refl _ _))⟩ (fun hHeld => ?_)
                refine pure_ (i := 0) (N := some 66) (v := ?_) (a' := ?_) #[true, false, false, false, false, false, false] rfl rfl (by kernel_rfl) (fun _ _ _ h => h) (Or.inl ⟨by rfl, ?_⟩) ?_ ?_
                rotate_left
                · intro w'
                  go_simp
                  with_reducible rfl
                rotate_left
                · simp only [Act.put, List.setIfInBounds_toArray, List.set_cons_zero, List.set_cons_succ, i64_w, i32_w]
                  rfl
                refine take_ (i := 1) (N := some 67) (v := ?_) (a' := ?_) #[true, true, false, false, false, false, false] rfl rfl (by kernel_rfl) (fun _ _ _ h => h) (Or.inl ⟨by rfl, ?_⟩) hHeld ?_ ?_
                rotate_left
                · rintro w' ⟨s0, s1, s2⟩
                  go_simp
                  with_reducible rfl
                rotate_left
                · simp only [Act.put, List.setIfInBounds_toArray, List.set_cons_zero, List.set_cons_succ, i64_w, i32_w]
                  rfl
                refine take_ (i := 2) (N := some 68) (v := ?_) (a' := ?_) #[true, true, true, false, false, false, false] rfl rfl (by kernel_rfl) (fun _ _ _ h => h) (Or.inl ⟨by rfl, ?_⟩) hHeld ?_ ?_
                rotate_left
                · rintro w' ⟨s0, s1, s2⟩
                  go_simp
                  with_reducible rfl
                rotate_left
                · simp only [Act.put, List.setIfInBounds_toArray, List.set_cons_zero, List.set_cons_succ, i64_w, i32_w]
                  rfl
                refine pure_ (i := 3) (N := some 69) (v := ?_) (a' := ?_) #[true, true, true, true, false, false, false] rfl rfl (by kernel_rfl) (fun _ _ _ h => h) (Or.inl ⟨by rfl, ?_⟩) ?_ ?_
                rotate_left
                · intro w'
                  go_simp
                  with_reducible rfl
                rotate_left
                · simp only [Act.put, List.setIfInBounds_toArray, List.set_cons_zero, List.set_cons_succ, i64_w, i32_w]
                  rfl
                refine one_ (i := 4) (N := some 70) #[true, true, true, true, true, false, false] rfl rfl (by kernel_rfl) (by decide) (fun K hK => ?_)
                obtain ⟨v0, st, wm, hme, hgm, wn, hes, hgn, hmn⟩ := (HML.out.below (below_drew1 (Below.refl _ _))).inc HWF.out (by rw [List.length_map, List.length_take]; omega)
                rw [HCN.out] at hes
                have HLM := Aside0.mk ((HML.out.below (below_drew1 (Below.refl _ _))).stay HWF.out (by rw [List.length_map, List.length_take]; omega) hme)
                have HGM := Aside0.mk hgm
                have HNM := Aside0.mk ((hgm.block bx (blk_lt (blk_below HNB.out (below_drew1 (Below.refl _ _)))) (by have := (HML.out.below (below_drew1 (Below.refl _ _))).ne (blk_below HNB.out (below_drew1 (Below.refl _ _))); simpa using this)).trans (blk_below HNB.out (below_drew1 (Below.refl _ _))))
                simp only [pkey] at hme
                have HGN := Aside0.mk hgn
                have HMN := Aside0.mk hmn
                clear hgm hgn hmn
                refine value_ (w1 := wm) (v := .tuple #[v0, .int .i64 (st : Int)]) (by rfl) rfl ?_ ?_
                · first | (go_simp; done) | (go_simp; rfl)
                refine hK.out _ _ ⟨(blk_cell HNM.out 0).trans rfl, (blk_cell HNM.out 1).trans rfl, (by have h := HLM.out.lookup HWF.out; rw [HCN.out] at h; exact h)⟩ (fun hHeld => ?_)
                clear hK K
                refine norm_ (a' := ?_) ?_ ?_
                rotate_left
                · show Act.put _ (some 70) _ = _
                  simp only [Act.put, List.setIfInBounds_toArray, List.set_cons_zero, List.set_cons_succ, i64_w, i32_w]
                  rfl
                refine pure_ (i := 5) (N := some 71) (v := ?_) (a' := ?_) #[true, true, true, true, true, true, false] rfl rfl (by kernel_rfl) (fun _ _ _ h => h) (Or.inl ⟨by rfl, ?_⟩) ?_ ?_
                rotate_left
                · intro w'
                  go_simp
                  with_reducible rfl
                rotate_left
                · simp only [Act.put, List.setIfInBounds_toArray, List.set_cons_zero, List.set_cons_succ, i64_w, i32_w]
                  rfl
                refine last_ (i := 6) (N := none) #[true, true, true, true, true, true, true] rfl rfl (by kernel_rfl) (by decide) (fun K hK => ?_)
                simp only [goInt] at hes
                refine skip_ (w1 := wn) (by rfl) rfl ?_ ?_
                · first | (go_simp; done) | (go_simp; rfl) | (trace_state; fail)
                refine hK.out _ _ ?_
                clear hK K
                refine done_ (by kernel_rfl) ?_
                clear hwc k0 k1 hHeld hme hes
                have HD := Aside0.mk (below_drew1 (Below.refl _ _) : Below wb.heap.size wb _)
                have HMO2 := Aside0.mk ((HMO.out.below HD.out).map (HML.out.below HD.out) HMC2.out HGN.out)
                have HM2 := Aside0.mk ((HM.out.below HD.out).kept HGN.out (by have := HNE.out; simpa using this))
                have HBX2 := Aside0.mk ((HGN.out.block bx (blk_lt (blk_below HNB.out HD.out)) (by have := (HML.out.below HD.out).ne (blk_below HNB.out HD.out); simpa using this)).trans (blk_below HNB.out HD.out))
                have HMP2 := Aside0.mk (show MapP wn ml ((bG.take (i + 1)).map plG) by rw [HTK.out]; exact HMN.out)
                clear HMO HM HML HLU HGM HNM HLM HGN HMN HTK HCN HD HNB
                have k0 := blk_cell HBX2.out 0
                have k1 := blk_cell HBX2.out 1
                have hlc : (Instr.lookup 47 (.map (some mc)) (.agg #[.int .i64 xl, .int .i64 xn]) false).run Try.prog wn = .ok (.int .i64 (cc : Int)) wn := by
                  have := HM2.out.lookup HWF.out
                  rw [HCC.out] at this
                  exact this
                generalize hlgE : (aG ++ (bG.take i).filter fun g => decide ((aC.map plC).count (plG g) = 0)) = lg at HMO2 HFT HLG
                generalize hlnE : (aG ++ (bG.take (i + 1)).filter fun g => decide ((aC.map plC).count (plG g) = 0)) = ln at HFT
                have HLN := Aside0.mk hlnE
                clear hlgE hlnE
                by_cases hc0 : cc = 0
                · have e1 : ((cc : Int) == 0) = true := by simp [hc0]
                  have e2 : decide ((cc : Int) = 0) = true := by simp [hc0]
                  have e3 : (cc == 0) = true := by simp [hc0]
                  have HFT2 := Aside0.mk (show ln = lg ++ [⟨xl, xn⟩] by rw [HFT.out, if_pos hc0])
                  have o3 := (blk_cell HMO2.out.bo 3).trans (show _ = some (.slice Ag ng cg) from rfl)
                  clear hc0 HFT HCC
                  go_wp2_with (first | ((with_reducible refine gate_builtin (b := .append) (xs := #[.tmp 77, .tmp 79]) rfl ?_); at_builtin; refine Kd.R_append k45 (w0 := w) w.heap.size rfl (.tmp 77) (.tmp 79) 28 45 (.agg #[(.int .i64 0), (.int .i64 0)]) 16 rfl Try.underlying28 info45 rfl (by decide) (by omega) (.slice Ag ng cg) lg (⟨xl, xn⟩ : S45) [.int .i64 xl, .int .i64 xn] (fun _ => True) (fun _ => False) rfl (by first | (go_simp; done) | (go_simp; rfl)) ?aP (fun _ hk => hk.elim) ?aF ?aO ?aB ?aS ?aL ?_; (case aP => exact k45_mkM _ _ _ (⟨xl, xn⟩ : S45)); (case aB => exact HMO2.out.hb); (case aF => exact (fun _ _ => trivial)); (case aO => exact HMO2.out.rg); (case aS => exact HMO2.out.hb.size); (case aL => have := HLG.out; omega); intro v9 w9 ho hb hg hat; obtain ⟨Ag9, cg9, rfl, _, _⟩ := Kd.R_reads ho; obtain ⟨n9, hn9⟩ : ∃ n, (lg ++ [(⟨xl, xn⟩ : S45)]).length = n := ⟨_, rfl⟩; rw [hn9] at ho ⊢; have HO9 := Aside0.mk ho; have HB9 := Aside0.mk hb; have HG9 := Aside0.mk hg; have o9 := (blk_cell (HMO2.out.boG hg) 3).trans (show _ = some (.slice Ag ng cg) from rfl); have q9 := blk_frozen (HMO2.out.boG hg) 3; clear ho hb hg hat hn9))
                  go_roundg gk1
                  case measure => omega
                  case rel => exact ⟨i + 1, Ag9, n9, cg9, by go_num, by omega, by omega, ⟨by rw [HLN.out, HFT2.out]; exact HMO2.out.gone HO9.out HB9.out HG9.out⟩, ⟨HM2.out.gone HMO2.out HG9.out⟩, ⟨HMP2.out.gone HMO2.out HG9.out⟩⟩
                · have e1 : ((cc : Int) == 0) = false := by simp [hc0]
                  have e2 : decide ((cc : Int) = 0) = false := by simp [hc0]
                  have e3 : (cc == 0) = false := by simp [hc0]
                  have HFT2 := Aside0.mk (show ln = lg by rw [HFT.out, if_neg hc0, List.append_nil])
                  clear hc0 HFT HCC
                  go_wp2
                  go_roundg gk1
                  case measure => omega
                  case rel => exact ⟨i + 1, Ag, ng, cg, by go_num, by omega, by omega, ⟨by rw [HLN.out, HFT2.out]; exact HMO2.out⟩, HM2, HMP2⟩
              · obtain rfl : mGn = i := by omega
                have b2' : decide ((mGn : Int) < (mGn : Int)) = false := decide_eq_false (by omega)
                have b2n : decide (mGn < mGn) = false := decide_eq_false (by omega)
                have HML := Aside0.mk (show MapP wr ml (bG.map plG) by have h := HML.out; rwa [List.take_of_length_le (by have := HN.out.2.1; omega)] at h)
                have HMO := Aside0.mk (show Mo w wr go (cE a0 a1 a2 (.slice A3 nG c3) (.slice A4 nC c4)) (cE b0 b1 b2 (.slice B3 mGn d3) (.slice B4 mCn d4)) X0 X1 X2 (.slice Ag ng cg) (.slice none 0 0) (mG aG aC bG) [] by have h := HMO.out; rwa [List.take_of_length_le (by have := HN.out.2.1; omega)] at h)
                have s4 := (blk_cell HMO.out.ba 4).trans (show _ = some (.slice A4 nC c4) from rfl)
                clear HM hkq
                go_wp2_with fail
                clear s4
                obtain ⟨RG, hRG⟩ : ∃ X, mG aG aC bG = X := ⟨_, rfl⟩
                rw [hRG] at HMO
                have HRGE := Aside0.mk hRG
                clear hRG
                go_loopg [86] (1 + nC) (fun kq v86 wr => ∃ (i : Nat) (Ac : Option Addr) (mc9 cc9 : Nat), v86 = .int .i64 (i : Int) ∧ i ≤ nC ∧ nC - i < kq ∧ Aside0 (Mo w wr go (cE a0 a1 a2 (.slice A3 nG c3) (.slice A4 nC c4)) (cE b0 b1 b2 (.slice B3 mGn d3) (.slice B4 mCn d4)) X0 X1 X2 (.slice Ag ng cg) (.slice Ac mc9 cc9) RG ((aC.take i).filter fun c => decide ((bG.map plG).count (plC c) = 0))) ∧ Aside0 (MapP wr ml (bG.map plG)))
                case atStart => exact ⟨0, none, 0, 0, rfl, Nat.zero_le _, by omega, HMO, HML⟩
                case round =>
                  clear HMO HML
                  obtain ⟨i, Ac, mc9, cc9, rfl, hin, hkq, HMO, HML⟩ := hrel
                  cases gk with
                  | zero => omega
                  | succ gk1 =>
                  by_cases hi : i < nC
                  · have b3' : decide ((i : Int) < (nC : Int)) = true := decide_eq_true (by omega)
                    have b3n : decide (i < nC) = true := decide_eq_true hi
                    have hio : i < aC.length := by rw [HN.out.1.2]; exact hi
                    obtain ⟨ad, hA, f0, f1, f2, f3, f4, f5, f6⟩ := at_T43 H4.out (i : Int) (by omega) (by omega)
                    subst hA
                    have hrd : rd_T43 aC (i : Int) = aC[i] := by unfold rd_T43; simp [hio]
                    rw [hrd, Int.toNat_natCast] at f0 f1 f2 f3 f4 f5 f6
                    have hft : ((aC.take (i + 1)).filter fun c => decide ((bG.map plG).count (plC c) = 0)) = ((aC.take i).filter fun c => decide ((bG.map plG).count (plC c) = 0)) ++ (if (bG.map plG).count (plC aC[i]) = 0 then [aC[i]] else []) := by
                      rw [List.take_add_one, List.getElem?_eq_getElem hio, List.filter_append]
                      by_cases hc : (bG.map plG).count (plC aC[i]) = 0 <;> simp [hc]
                    have hwf := HWA.out aC[i] (List.getElem_mem hio)
                    obtain ⟨x, hx⟩ : ∃ x, aC[i] = x := ⟨_, rfl⟩
                    rw [hx] at f0 f1 f2 f3 f4 f5 f6 hft hwf
                    obtain ⟨xl, xn, xs, xa, xb, xc, xd⟩ := x
                    simp only [] at f0 f1 f2 f3 f4 f5 f6
                    have HWF := Aside0.mk (show WfP (xl, xn) from hwf)
                    obtain ⟨cc, hcc⟩ : ∃ cc, (bG.map plG).count (xl, xn) = cc := ⟨_, rfl⟩
                    have hft2 : ((aC.take (i + 1)).filter fun c => decide ((bG.map plG).count (plC c) = 0)) = ((aC.take i).filter fun c => decide ((bG.map plG).count (plC c) = 0)) ++ (if cc = 0 then [⟨xl, ⟨xn, xs, xa, xb, xc, xd⟩⟩] else []) := by rw [← hcc]; exact hft
                    have hlg : ((aC.take i).filter fun c => decide ((bG.map plG).count (plC c) = 0)).length ≤ 3145728 := by
                      have h1 := HL.out.2.1
                      have h2 : ((aC.take i).filter fun c => decide ((bG.map plG).count (plC c) = 0)).length ≤ (aC.take i).length := List.length_filter_le _ _
                      rw [List.length_take] at h2
                      omega
                    have HFT := Aside0.mk hft2
                    have HLG := Aside0.mk hlg
                    have HCC := Aside0.mk hcc
                    have hb := HMO.out.hb
                    have g0 := (hb.cell (World.block_lt_of_cell? w _ f0)).trans f0
                    have g1 := (hb.cell (World.block_lt_of_cell? w _ f1)).trans f1
                    have g2 := (hb.cell (World.block_lt_of_cell? w _ f2)).trans f2
                    have g3' := (hb.cell (World.block_lt_of_cell? w _ f3)).trans f3
                    have g4' := (hb.cell (World.block_lt_of_cell? w _ f4)).trans f4
                    have g5 := (hb.cell (World.block_lt_of_cell? w _ f5)).trans f5
                    have g6 := (hb.cell (World.block_lt_of_cell? w _ f6)).trans f6
                    have HNB := Aside0.mk (blk_new wr (.cells #[.int .i64 xl, .int .i64 xn, .int .i64 xs, .string xa, .string xb, .int .u64 xc, .int .u64 xd] 43))
                    have j0 := blk_cell HNB.out 0
                    have j1 := blk_cell HNB.out 1
                    have j2 := blk_cell HNB.out 2
                    have j3 := blk_cell HNB.out 3
                    have j4 := blk_cell HNB.out 4
                    have j5 := blk_cell HNB.out 5
                    have j6 := blk_cell HNB.out 6
                    clear hio hrd hft hft2 hlg hwf hx hcc f0 f1 f2 f3 f4 f5 f6 hb
                    go_wp2_with fail
                    clear j0 j1 j2 j3 j4 j5 j6
                    have HMO := Aside0.mk (HMO.out.below (below_alloc (Below.refl _ _) (.cells #[.int .i64 xl, .int .i64 xn, .int .i64 xs, .string xa, .string xb, .int .u64 xc, .int .u64 xd] 43)))
                    have HML := Aside0.mk (HML.out.below (below_alloc (Below.refl _ _) (.cells #[.int .i64 xl, .int .i64 xn, .int .i64 xs, .string xa, .string xb, .int .u64 xc, .int .u64 xd] 43)))
                    clear g0 g1 g2 g3' g4' g5 g6
                    generalize wr.alloc (.cells #[.int .i64 xl, .int .i64 xn, .int .i64 xs, .string xa, .string xb, .int .u64 xc, .int .u64 xd] 43) = wb at HNB HMO HML ⊢
                    generalize wr.heap.size = bx at HNB ⊢
                    (with_reducible refine (edit_placeOf.calls xl xn xs xa xb xc xd xl xn _ rfl).mono ?_)
                    rintro e wn ⟨rfl, hb⟩
                    have HMO2 := Aside0.mk (HMO.out.below hb)
                    have HM2 := Aside0.mk (HML.out.below hb)
                    have HBX2 := Aside0.mk (blk_below HNB.out hb)
                    clear hb HMO HML HNB
                    have k0 := blk_cell HBX2.out 0
                    have k1 := blk_cell HBX2.out 1
                    have k2 := blk_cell HBX2.out 2
                    have k3 := blk_cell HBX2.out 3
                    have k4 := blk_cell HBX2.out 4
                    have k5 := blk_cell HBX2.out 5
                    have k6 := blk_cell HBX2.out 6
                    have hlc : (Instr.lookup 47 (.map (some ml)) (.agg #[.int .i64 xl, .int .i64 xn]) false).run Try.prog wn = .ok (.int .i64 (cc : Int)) wn := by
                      have := HM2.out.lookup HWF.out
                      rw [HCC.out] at this
                      exact this
                    generalize hlgE : ((aC.take i).filter fun c => decide ((bG.map plG).count (plC c) = 0)) = lg at HMO2 HFT HLG
                    generalize hlnE : ((aC.take (i + 1)).filter fun c => decide ((bG.map plG).count (plC c) = 0)) = ln at HFT
                    have HLN := Aside0.mk hlnE
                    clear hlgE hlnE
                    by_cases hc0 : cc = 0
                    · have e1 : ((cc : Int) == 0) = true := by simp [hc0]
                      have e2 : decide ((cc : Int) = 0) = true := by simp [hc0]
                      have e3 : (cc == 0) = true := by simp [hc0]
                      have HFT2 := Aside0.mk (show ln = lg ++ [⟨xl, ⟨xn, xs, xa, xb, xc, xd⟩⟩] by rw [HFT.out, if_pos hc0])
                      have o4 := (blk_cell HMO2.out.bo 4).trans (show _ = some (.slice Ac mc9 cc9) from rfl)
                      clear hc0 HFT HCC
                      go_wp2_with (first | ((with_reducible refine gate_builtin (b := .append) (xs := #[.tmp 96, .tmp 98]) rfl ?_); at_builtin; refine Kd.R_append k43 (w0 := w) w.heap.size rfl (.tmp 96) (.tmp 98) 29 43 (.agg #[(.int .i64 0), (.int .i64 0), (.int .i64 0), (.string ⟨#[]⟩), (.string ⟨#[]⟩), (.int .u64 0), (.int .u64 0)]) 72 rfl Try.underlying29 info43 rfl (by decide) (by omega) (.slice Ac mc9 cc9) lg (⟨xl, ⟨xn, xs, xa, xb, xc, xd⟩⟩ : S43) [.int .i64 xl, .int .i64 xn, .int .i64 xs, .string xa, .string xb, .int .u64 xc, .int .u64 xd] (fun _ => True) (fun _ => False) rfl (by first | (go_simp; done) | (go_simp; rfl)) ?aP (fun _ hk => hk.elim) ?aF ?aO ?aB ?aS ?aL ?_; (case aP => exact k43_mkM _ _ _ (⟨xl, ⟨xn, xs, xa, xb, xc, xd⟩⟩ : S43)); (case aB => exact HMO2.out.hb); (case aF => exact (fun _ _ => trivial)); (case aO => exact HMO2.out.rc); (case aS => exact HMO2.out.hb.size); (case aL => have := HLG.out; omega); intro v9 w9 ho hb hg hat; obtain ⟨Ag9, cg9, rfl, _, _⟩ := Kd.R_reads ho; obtain ⟨n9, hn9⟩ : ∃ n, (lg ++ [(⟨xl, ⟨xn, xs, xa, xb, xc, xd⟩⟩ : S43)]).length = n := ⟨_, rfl⟩; rw [hn9] at ho ⊢; have HO9 := Aside0.mk ho; have HB9 := Aside0.mk hb; have HG9 := Aside0.mk hg; have o9 := (blk_cell (HMO2.out.boC hg) 4).trans (show _ = some (.slice Ac mc9 cc9) from rfl); have q9 := blk_frozen (HMO2.out.boC hg) 4; clear ho hb hg hat hn9))
                      go_roundg gk1
                      case measure => omega
                      case rel => exact ⟨i + 1, Ag9, n9, cg9, by go_num, by omega, by omega, ⟨by rw [HLN.out, HFT2.out]; exact HMO2.out.come HO9.out HB9.out HG9.out⟩, ⟨HM2.out.come HMO2.out HG9.out⟩⟩
                    · have e1 : ((cc : Int) == 0) = false := by simp [hc0]
                      have e2 : decide ((cc : Int) = 0) = false := by simp [hc0]
                      have e3 : (cc == 0) = false := by simp [hc0]
                      have HFT2 := Aside0.mk (show ln = lg by rw [HFT.out, if_neg hc0, List.append_nil])
                      clear hc0 HFT HCC
                      go_wp2
                      go_roundg gk1
                      case measure => omega
                      case rel => exact ⟨i + 1, Ac, mc9, cc9, by go_num, by omega, by omega, ⟨by rw [HLN.out, HFT2.out]; exact HMO2.out⟩, HM2⟩
                  · obtain rfl : nC = i := by omega
                    have b3' : decide ((nC : Int) < (nC : Int)) = false := decide_eq_false (by omega)
                    have b3n : decide (nC < nC) = false := decide_eq_false (by omega)
                    have hlg : ((aC.take nC).filter fun c => decide ((bG.map plG).count (plC c) = 0)).length ≤ 3145728 := by
                      have h1 := HL.out.2.1
                      have h2 : ((aC.take nC).filter fun c => decide ((bG.map plG).count (plC c) = 0)).length ≤ (aC.take nC).length := List.length_filter_le _ _
                      rw [List.length_take] at h2
                      omega
                    have HLG := Aside0.mk hlg
                    have HEQ := Aside0.mk (show ((aC.take nC).filter fun c => decide ((bG.map plG).count (plC c) = 0)) = (aC.filter fun c => decide ((bG.map plG).count (plC c) = 0)) by rw [List.take_of_length_le (by have := HN.out.1.2; omega)])
                    generalize ((aC.take nC).filter fun c => decide ((bG.map plG).count (plC c) = 0)) = lg at HMO HLG HEQ
                    have o4 := (blk_cell HMO.out.bo 4).trans (show _ = some (.slice Ac mc9 cc9) from rfl)
                    have s4 := (blk_cell HMO.out.bb 4).trans (show _ = some (.slice B4 mCn d4) from rfl)
                    clear HML hkq hlg
                    go_wp2_with (first | ((with_reducible refine gate_builtin (b := .append) (xs := #[.tmp 103, .tmp 105]) rfl ?_); at_builtin; refine Kd.R_append_rows k43 (w0 := w) w.heap.size rfl (.tmp 103) (.tmp 105) 29 43 (.agg #[(.int .i64 0), (.int .i64 0), (.int .i64 0), (.string ⟨#[]⟩), (.string ⟨#[]⟩), (.int .u64 0), (.int .u64 0)]) 72 rfl Try.underlying29 info43 rfl (by decide) (by omega) (.slice Ac mc9 cc9) lg bC _ _ _ (fun _ => True) (fun _ => False) rfl rfl ?aO ?aR (fun _ _ h => h) (fun _ h => h.elim) ?aF ?aB ?aS ?aL ?_; (case aR => exact (by have := Kd.C_below G4.out HMO.out.hb; rw [HN.out.2.2] at this; exact this)); (case aB => exact HMO.out.hb); (case aF => exact (fun _ _ => trivial)); (case aO => exact HMO.out.rc); (case aS => exact HMO.out.hb.size); (case aL => have := HLG.out; have := HL.out.2.2.2; have := HN.out.2.2; omega); intro v9 w9 ho hb hg hat; obtain ⟨Ag9, cg9, rfl, _, _⟩ := Kd.R_reads ho; obtain ⟨n9, hn9⟩ : ∃ n, (lg ++ bC).length = n := ⟨_, rfl⟩; rw [hn9] at ho ⊢; have HMO9 := Aside0.mk (HMO.out.come ho hb hg); have y0 := (blk_cell (HMO.out.boC hg) 0).trans (show _ = some (.int .i64 X0) from rfl); have y1 := (blk_cell (HMO.out.boC hg) 1).trans (show _ = some (.int .i64 X1) from rfl); have y2 := (blk_cell (HMO.out.boC hg) 2).trans (show _ = some (.int .u64 X2) from rfl); have y3 := (blk_cell (HMO.out.boC hg) 3).trans (show _ = some (.slice Ag ng cg) from rfl); have y4 := (blk_cell (HMO.out.boC hg) 4).trans (show _ = some (.slice Ac mc9 cc9) from rfl); have y5 := blk_frozen (HMO.out.boC hg) 4; have z0 := (blk_cell HMO9.out.bo 0).trans (show _ = some (.int .i64 X0) from rfl); have z1 := (blk_cell HMO9.out.bo 1).trans (show _ = some (.int .i64 X1) from rfl); have z2 := (blk_cell HMO9.out.bo 2).trans (show _ = some (.int .u64 X2) from rfl); have z3 := (blk_cell HMO9.out.bo 3).trans (show _ = some (.slice Ag ng cg) from rfl); have z4 := (blk_cell HMO9.out.bo 4).trans (show _ = some (.slice Ag9 n9 cg9) from rfl); have r0 := blk_cell (HMO.out.brC hg) 0; have r1 := blk_cell (HMO.out.brC hg) 1; have r2 := blk_cell (HMO.out.brC hg) 2; have r3 := blk_cell (HMO.out.brC hg) 3; have r4 := blk_cell (HMO.out.brC hg) 4; have p0 := blk_frozen (HMO.out.brC hg) 0; have p1 := blk_frozen (HMO.out.brC hg) 1; have p2 := blk_frozen (HMO.out.brC hg) 2; have p3 := blk_frozen (HMO.out.brC hg) 3; have p4 := blk_frozen (HMO.out.brC hg) 4; have hng : go ≠ w.heap.size + 1 + 1 := (by have := HMO.out.hg; omega); have hng2 : w.heap.size + 1 + 1 ≠ go := (by have := HMO.out.hg; omega); clear ho hb hg hat hn9))
                    obtain ⟨t1, t2, t3, t4⟩ := HMO9.out.told (b := w.heap.size + 1 + 1) rfl
                    refine bodyPost_ret (results_cell_row rfl _ _ (w.heap.size + 1 + 1) 31 (cE X0 X1 X2 (.slice Ag ng cg) (.slice Ag9 n9 cg9)) (0, 0) _ rfl t1 Try.underlying31 rfl (by kernel_rfl)) rfl ?_
                    unfold toldW at t2 t3 t4
                    exact ⟨_, _, by rw [HX0.out, HX1.out, HX2.out], by rw [HRGE.out]; exact t2, by rw [HEQ.out] at t3; exact t3, t4⟩

end Go.Proofs.Ytppldgbgdgeegaa.G

/- Printed by the session's program over the kit's print, out of the translation: functions as plain Lean functions, and the proofs that the calls come to them. -/
namespace Go.Proofs.Ytppldgbgdgeegaa.G
open Go.RowKit Go.Proofs.YtppldgbgdgeegaaW.PrintWords Go.Proofs.YtppldgbgdgeegaaW.PrintLast Go.Proofs.YtppldgbgdgeegaaW.PrintMore
attribute [local go_sem] max2_int min2_int max_two min_two max_three min_three max_four min_four   -- for this text's walks alone
set_option linter.unusedVariables false
set_option linter.unusedSimpArgs false

/-! ### morainelaw15_lent: function 10 -/
def morainelaw15_lent.f (a0_0 : Int) (a0_1 : Int) (a0_2 : Int) (l0_3 : List (S45)) (l0_4 : List (S43)) : Option (Int × Int × Int × (List (S45)) × (List (S43))) := (some (([] : List (S45)) : List (S45))).bind fun y178 => (if y178.length + l0_3.length < 8796093022208 then ((some (([] : List (S43)) : List (S43))).bind fun y184 => (if y184.length + l0_4.length < 1954687338268 then (some (a0_0, a0_1, a0_2, (y178 ++ l0_3), (y184 ++ l0_4))) else (none))) else (none))
set_option maxHeartbeats 8000000 in
set_option maxRecDepth 100000 in
theorem morainelaw15_lent.calls (a0_0 : Int) (a0_1 : Int) (a0_2 : Int) (A0_3 : Option Addr) (c0_3 : Nat) (l0_3 : List (S45)) (A0_4 : Option Addr) (c0_4 : Nat) (l0_4 : List (S43)) (r1 : Int) (r2 : Int) (r3 : Int) (r4 : List (S45)) (r5 : List (S43)) (w : World) (hr0_3 : Kd.C k45 w A0_3 l0_3.length l0_3) (hc0_3 : l0_3.length ≤ c0_3) (hr0_4 : Kd.C k43 w A0_4 l0_4.length l0_4) (hc0_4 : l0_4.length ≤ c0_4) (h : morainelaw15_lent.f a0_0 a0_1 a0_2 l0_3 l0_4 = some (r1, r2, r3, r4, r5)) :
    Calls Try.prog 10 #[.agg #[.int .i64 a0_0, .int .i64 a0_1, .int .u64 a0_2, .slice A0_3 l0_3.length c0_3, .slice A0_4 l0_4.length c0_4]] w fun e w' => ∃ v3_ v4_ : Value, e = .returned (.agg #[.int .i64 r1, .int .i64 r2, .int .u64 r3, v3_, v4_]) ∧ Kd.R k45 45 w' w.heap.size (fun _ => True) v3_ r4 ∧ Kd.R k43 43 w' w.heap.size (fun _ => True) v4_ r5 ∧ Below w.heap.size w w' := by
  have hu31 := Try.underlying31
  have HR0_3 := Aside0.mk hr0_3
  have HC0_3 := Aside0.mk hc0_3
  clear hr0_3 hc0_3
  have HR0_4 := Aside0.mk hr0_4
  have HC0_4 := Aside0.mk hc0_4
  clear hr0_4 hc0_4
  have HB := Aside0.mk (Below.refl w.heap.size w)
  have H : ((some (([] : List (S45)) : List (S45))).bind fun y178 => (if y178.length + l0_3.length < 8796093022208 then ((some (([] : List (S43)) : List (S43))).bind fun y184 => (if y184.length + l0_4.length < 1954687338268 then (some (a0_0, a0_1, a0_2, (y178 ++ l0_3), (y184 ++ l0_4))) else (none))) else (none))) = some (r1, r2, r3, r4, r5) := h
  clear h
  obtain ⟨y178, hy178⟩ : ∃ y_ : List (S45), y_ = (([] : List (S45))) := ⟨_, rfl⟩
  replace H : (if y178.length + l0_3.length < 8796093022208 then ((some (([] : List (S43)) : List (S43))).bind fun y184 => (if y184.length + l0_4.length < 1954687338268 then (some (a0_0, a0_1, a0_2, (y178 ++ l0_3), (y184 ++ l0_4))) else (none))) else (none)) = some (r1, r2, r3, r4, r5) := by first | (rw [hy178]; with_reducible exact H) | (have H2_ := (Option.bind_some _ _).symm.trans H; rw [hy178]; with_reducible exact H2_) | (have H2_ := (Option.bind_some _ _).symm.trans H; with_reducible exact H2_) | with_reducible exact H | (rw [hy178]; exact H) | exact H
  have Ny178 := Aside0.mk hy178
  clear hy178
  by_cases c2 : y178.length + l0_3.length < 8796093022208
  · rw [if_pos c2] at H
    have LMc2 := Aside0.mk c2
    clear c2
    obtain ⟨y181, hy181⟩ : ∃ y_ : List (S45), y_ = (y178 ++ l0_3) := ⟨_, rfl⟩
    replace H : ((some (([] : List (S43)) : List (S43))).bind fun y184 => (if y184.length + l0_4.length < 1954687338268 then (some (a0_0, a0_1, a0_2, y181, (y184 ++ l0_4))) else (none))) = some (r1, r2, r3, r4, r5) := by first | (rw [hy181]; with_reducible exact H) | (have H2_ := (Option.bind_some _ _).symm.trans H; rw [hy181]; with_reducible exact H2_) | (have H2_ := (Option.bind_some _ _).symm.trans H; with_reducible exact H2_) | with_reducible exact H | (rw [hy181]; exact H) | exact H
    have Ny181 := Aside0.mk hy181
    clear hy181
    obtain ⟨y184, hy184⟩ : ∃ y_ : List (S43), y_ = (([] : List (S43))) := ⟨_, rfl⟩
    replace H : (if y184.length + l0_4.length < 1954687338268 then (some (a0_0, a0_1, a0_2, y181, (y184 ++ l0_4))) else (none)) = some (r1, r2, r3, r4, r5) := by first | (rw [hy184]; with_reducible exact H) | (have H2_ := (Option.bind_some _ _).symm.trans H; rw [hy184]; with_reducible exact H2_) | (have H2_ := (Option.bind_some _ _).symm.trans H; with_reducible exact H2_) | with_reducible exact H | (rw [hy184]; exact H) | exact H
    have Ny184 := Aside0.mk hy184
    clear hy184
    by_cases c3 : y184.length + l0_4.length < 1954687338268
    · rw [if_pos c3] at H
      have LMc3 := Aside0.mk c3
      clear c3
      obtain ⟨y187, hy187⟩ : ∃ y_ : List (S43), y_ = (y184 ++ l0_4) := ⟨_, rfl⟩
      replace H : (some (a0_0, a0_1, a0_2, y181, y187)) = some (r1, r2, r3, r4, r5) := by first | (rw [hy187]; with_reducible exact H) | (have H2_ := (Option.bind_some _ _).symm.trans H; rw [hy187]; with_reducible exact H2_) | (have H2_ := (Option.bind_some _ _).symm.trans H; with_reducible exact H2_) | with_reducible exact H | (rw [hy187]; exact H) | exact H
      have Ny187 := Aside0.mk hy187
      clear hy187
      simp only [Option.some.injEq, Prod.mk.injEq] at H
      obtain ⟨rfl, rfl, rfl, rfl, rfl⟩ := H
      go_enter Try.func10, Try.ntmps10
      go_wp2_with (first | ((with_reducible refine gate_dst (N := 1) rfl ?_); refine box_event ?hg (N := 1) ?hd (cs := #[.int .i64 a0_0, .int .i64 a0_1, .int .u64 a0_2, .slice A0_3 l0_3.length c0_3, .slice A0_4 l0_4.length c0_4]) (t := 31) ?hr ?_; (case hd => rfl); (case hg => rfl); (case hr => first | (go_simp; done) | (go_simp; rfl)); intro gb176 hg w4 hbox hb; have n0_ := Aside0.mk (below_step (by repeat (first | (with_reducible first | exact HB.out | apply below_alloc | apply pw_below_drewN | apply below_drew1) | exact HB.out)) hb); have n1_ := Aside0.mk (hbox); have n2_ := Aside0.mk ((by rw [hg]; exact (below_size (by repeat (first | (with_reducible first | exact HB.out | apply below_alloc | apply pw_below_drewN | apply below_drew1) | exact HB.out))) : w.heap.size ≤ gb176)); have n3_ := Aside0.mk ((by rw [hg]; exact (below_size (by repeat (first | (with_reducible first | exact HB.out | apply below_alloc | apply pw_below_drewN | apply below_drew1) | exact HB.out))) : w.heap.size ≤ gb176)); clear HB; have HB := n0_; have BK176 := n1_; have GW176 := n2_; have GE176 := n3_; clear n0_ n1_ n2_ n3_; clear hb hbox hg) | ((with_reducible refine gate_dst (N := 2) rfl ?_); refine box_event ?hg (N := 2) ?hd (cs := #[.int .i64 0, .int .i64 0, .int .u64 0, .slice none 0 0, .slice none 0 0]) (t := 31) ?hr ?_; (case hd => rfl); (case hg => rfl); (case hr => first | (go_simp; done) | (go_simp; rfl)); intro gb177 hg w5 hbox hb; have n0_ := Aside0.mk (blk_below (g := gb176) (o := .cells #[.int .i64 a0_0, .int .i64 a0_1, .int .u64 a0_2, .slice A0_3 l0_3.length c0_3, .slice A0_4 l0_4.length c0_4] 31 (0, 0)) (by (with_reducible repeat (first | refine blk_drewN ?_ _ | refine blk_drew ?_ | refine blk_alloc ?_ _)); exact BK176.out) hb); have n1_ := Aside0.mk (below_step (by repeat (first | (with_reducible first | exact HB.out | apply below_alloc | apply pw_below_drewN | apply below_drew1 | refine below_set ?_ GE176.out) | exact HB.out)) hb); have n2_ := Aside0.mk (hbox); have n3_ := Aside0.mk ((by rw [hg]; exact (below_size (by repeat (first | (with_reducible first | exact HB.out | apply below_alloc | apply pw_below_drewN | apply below_drew1 | refine below_set ?_ GE176.out) | exact HB.out))) : w.heap.size ≤ gb177)); have n4_ := Aside0.mk ((by rw [hg]; exact (below_size (by repeat (first | (with_reducible first | exact HB.out | apply below_alloc | apply pw_below_drewN | apply below_drew1 | refine below_set ?_ GE176.out) | exact HB.out))) : w.heap.size ≤ gb177)); have n5_ := Aside0.mk ((by rw [hg]; exact Nat.ne_of_lt (blk_lt (g := gb176) (o := .cells #[.int .i64 a0_0, .int .i64 a0_1, .int .u64 a0_2, .slice A0_3 l0_3.length c0_3, .slice A0_4 l0_4.length c0_4] 31 (0, 0)) (by (with_reducible repeat (first | refine blk_drewN ?_ _ | refine blk_drew ?_ | refine blk_alloc ?_ _)); exact BK176.out)) : gb176 ≠ gb177)); have n6_ := Aside0.mk ((by rw [hg]; exact Nat.ne_of_gt (blk_lt (g := gb176) (o := .cells #[.int .i64 a0_0, .int .i64 a0_1, .int .u64 a0_2, .slice A0_3 l0_3.length c0_3, .slice A0_4 l0_4.length c0_4] 31 (0, 0)) (by (with_reducible repeat (first | refine blk_drewN ?_ _ | refine blk_drew ?_ | refine blk_alloc ?_ _)); exact BK176.out)) : gb177 ≠ gb176)); clear BK176; clear HB; have BK176 := n0_; have HB := n1_; have BK177 := n2_; have GW177 := n3_; have GE177 := n4_; have NB176_177 := n5_; have NB177_176 := n6_; clear n0_ n1_ n2_ n3_ n4_ n5_ n6_; clear hb hbox hg) | ((with_reducible refine gate_dst (N := 3) rfl ?_); refine Kd.R_lit k45 _ 45 ?hg (N := 3) ?hd (xs := ([] : List (S45))) (inner := []) (ok := fun _ => True) (okp := fun _ => True) ?hr ?hp (fun _ hk => hk) trivial (Below.refl _ _) (Nat.le_refl _) (by simp) ?_; (case hd => rfl); (case hg => rfl); (case hr => first | (go_simp; done) | (go_simp; rfl)); (case hp => exact (Reps.none _ _)); intro v179 w6 ho7 hb hg_ hnew_; clear hg_ hnew_; (first | rw [← Ny178.out] at ho7 | (simp only [Int.reduceToNat] at ho7; rw [← Ny178.out] at ho7)); have n0_ := Aside0.mk (Kd.R_lower ho7 (below_size (by repeat (first | (with_reducible first | exact HB.out | apply below_alloc | apply pw_below_drewN | apply below_drew1 | refine below_set ?_ GE176.out | refine below_set ?_ GE177.out) | exact HB.out)))); have n1_ := Aside0.mk (blk_below (g := gb176) (o := .cells #[.int .i64 a0_0, .int .i64 a0_1, .int .u64 a0_2, .slice A0_3 l0_3.length c0_3, .slice A0_4 l0_4.length c0_4] 31 (0, 0)) (by (with_reducible repeat (first | refine blk_drewN ?_ _ | refine blk_drew ?_ | refine blk_alloc ?_ _)); exact BK176.out) hb); have n2_ := Aside0.mk (blk_below (g := gb177) (o := .cells #[.int .i64 0, .int .i64 0, .int .u64 0, .slice none 0 0, .slice none 0 0] 31 (0, 0)) (by (with_reducible repeat (first | refine blk_drewN ?_ _ | refine blk_drew ?_ | refine blk_alloc ?_ _)); exact BK177.out) hb); have n3_ := Aside0.mk (below_step (by repeat (first | (with_reducible first | exact HB.out | apply below_alloc | apply pw_below_drewN | apply below_drew1 | refine below_set ?_ GE176.out | refine below_set ?_ GE177.out) | exact HB.out)) hb); clear BK176; clear BK177; clear HB; have HO180 := n0_; have BK176 := n1_; have BK177 := n2_; have HB := n3_; clear n0_ n1_ n2_ n3_; clear hb ho7; have hnb8 := NB176_177.out; have hnc8 := NB177_176.out; have hcz9_0 : w6.cell? ⟨gb176, 0, none⟩ = some (.int .i64 a0_0) := (blk_cell BK176.out 0).trans rfl; have hcz9_1 : w6.cell? ⟨gb176, 1, none⟩ = some (.int .i64 a0_1) := (blk_cell BK176.out 1).trans rfl; have hcz9_2 : w6.cell? ⟨gb176, 2, none⟩ = some (.int .u64 a0_2) := (blk_cell BK176.out 2).trans rfl; have hcz9_3 : w6.cell? ⟨gb176, 3, none⟩ = some (.slice A0_3 l0_3.length c0_3) := (blk_cell BK176.out 3).trans rfl; have hcz9_4 : w6.cell? ⟨gb176, 4, none⟩ = some (.slice A0_4 l0_4.length c0_4) := (blk_cell BK176.out 4).trans rfl; have hfz9_0 := blk_frozen BK176.out 0; have hfz9_1 := blk_frozen BK176.out 1; have hfz9_2 := blk_frozen BK176.out 2; have hfz9_3 := blk_frozen BK176.out 3; have hfz9_4 := blk_frozen BK176.out 4) | ((with_reducible refine gate_builtin (b := .append) (xs := #[.tmp 3, .tmp 5]) rfl ?_); at_builtin; refine Kd.R_append_rows k45 (w0 := w) w.heap.size rfl (.tmp 3) (.tmp 5) 28 45 (.agg #[(.int .i64 0), (.int .i64 0)]) 16 rfl Try.underlying28 info45 rfl (by decide) (by omega) v179 y178 l0_3 _ _ _ (fun _ => True) (fun _ => False) rfl rfl ?aO ?aR (fun _ _ h => h) (fun _ h => h.elim) ?aF ?aB ?aS ?aL ?_; (case aR => repeat (first | exact (Kd.C_below HR0_3.out HB.out) | (with_reducible refine Kd.C_alloc ?_ _) | (with_reducible refine Kd.C_drewN ?_ _) | (with_reducible refine Kd.C_drew ?_))); (case aB => exact (by repeat (first | (with_reducible first | exact HB.out | apply below_alloc | apply pw_below_drewN | apply below_drew1 | refine below_set ?_ GE176.out | refine below_set ?_ GE177.out) | exact HB.out))); (case aF => exact (fun _ _ => trivial)); (case aO => exact (by (with_reducible repeat (first | apply Kd.R_alloc | apply Kd.R_drewN | apply Kd.R_drew)); exact HO180.out)); (case aS => exact (below_size (by repeat (first | (with_reducible first | exact HB.out | apply below_alloc | apply pw_below_drewN | apply below_drew1 | refine below_set ?_ GE176.out | refine below_set ?_ GE177.out) | exact HB.out)))); (case aL => have := LMc2.out; omega); intro v182 w10 ho hb hg hat; rw [← Ny181.out] at ho; have n0_ := Aside0.mk (blk_grown (g := gb176) (o := .cells #[.int .i64 a0_0, .int .i64 a0_1, .int .u64 a0_2, .slice A0_3 l0_3.length c0_3, .slice A0_4 l0_4.length c0_4] 31 (0, 0)) (by (with_reducible repeat (first | refine blk_drewN ?_ _ | refine blk_drew ?_ | refine blk_alloc ?_ _)); exact BK176.out) hg (Kd.R_ne HO180.out BK176.out (by decide))); have n1_ := Aside0.mk (blk_grown (g := gb177) (o := .cells #[.int .i64 0, .int .i64 0, .int .u64 0, .slice none 0 0, .slice none 0 0] 31 (0, 0)) (by (with_reducible repeat (first | refine blk_drewN ?_ _ | refine blk_drew ?_ | refine blk_alloc ?_ _)); exact BK177.out) hg (Kd.R_ne HO180.out BK177.out (by decide))); have n2_ := Aside0.mk (hb); have n3_ := Aside0.mk (ho); clear BK176; clear BK177; clear HB; clear HO180; have BK176 := n0_; have BK177 := n1_; have HB := n2_; have HO183 := n3_; clear n0_ n1_ n2_ n3_; clear ho hb hg hat; obtain ⟨Ao11, co11, eo11⟩ := Kd.R_slice HO183.out; subst eo11; have hcz12_0 : w10.cell? ⟨gb176, 0, none⟩ = some (.int .i64 a0_0) := (blk_cell BK176.out 0).trans rfl; have hcz12_1 : w10.cell? ⟨gb176, 1, none⟩ = some (.int .i64 a0_1) := (blk_cell BK176.out 1).trans rfl; have hcz12_2 : w10.cell? ⟨gb176, 2, none⟩ = some (.int .u64 a0_2) := (blk_cell BK176.out 2).trans rfl; have hcz12_3 : w10.cell? ⟨gb176, 3, none⟩ = some (.slice A0_3 l0_3.length c0_3) := (blk_cell BK176.out 3).trans rfl; have hcz12_4 : w10.cell? ⟨gb176, 4, none⟩ = some (.slice A0_4 l0_4.length c0_4) := (blk_cell BK176.out 4).trans rfl; have hfz12_0 := blk_frozen BK176.out 0; have hfz12_1 := blk_frozen BK176.out 1; have hfz12_2 := blk_frozen BK176.out 2; have hfz12_3 := blk_frozen BK176.out 3; have hfz12_4 := blk_frozen BK176.out 4) | ((with_reducible refine gate_dst (N := 8) rfl ?_); refine Kd.R_lit k43 _ 43 ?hg (N := 8) ?hd (xs := ([] : List (S43))) (inner := []) (ok := fun _ => True) (okp := fun _ => True) ?hr ?hp (fun _ hk => hk) trivial (Below.refl _ _) (Nat.le_refl _) (by simp) ?_; (case hd => rfl); (case hg => rfl); (case hr => first | (go_simp; done) | (go_simp; rfl)); (case hp => exact (Reps.none _ _)); intro v185 w13 ho14 hb hg_ hnew_; clear hg_ hnew_; (first | rw [← Ny184.out] at ho14 | (simp only [Int.reduceToNat] at ho14; rw [← Ny184.out] at ho14)); have n0_ := Aside0.mk (Kd.R_below (by (with_reducible repeat (first | apply Kd.R_alloc | apply Kd.R_drewN | apply Kd.R_drew)); exact (Kd.R_mono (Kd.R_far (p := ⟨gb176, 3, none⟩) (Kd.R_types HO183.out BK176.out (by decide)) (fun _ hk => hk.2) (.slice Ao11 y181.length co11)) (fun _ h_ => h_.1))) hb); have n1_ := Aside0.mk (Kd.R_lower ho14 (below_size (by repeat (first | (with_reducible first | exact HB.out | apply below_alloc | apply pw_below_drewN | apply below_drew1 | refine below_set ?_ GE176.out | refine below_set ?_ GE177.out) | exact HB.out)))); have n2_ := Aside0.mk (blk_below (g := gb176) (o := .cells #[.int .i64 a0_0, .int .i64 a0_1, .int .u64 a0_2, .slice Ao11 y181.length co11, .slice A0_4 l0_4.length c0_4] 31 (0, 0)) (by (with_reducible repeat (first | refine blk_drewN ?_ _ | refine blk_drew ?_ | refine blk_alloc ?_ _)); refine blk_put (cs := #[.int .i64 a0_0, .int .i64 a0_1, .int .u64 a0_2, .slice A0_3 l0_3.length c0_3, .slice A0_4 l0_4.length c0_4]) ?_ 3 _ rfl; (with_reducible repeat (first | refine blk_drewN ?_ _ | refine blk_drew ?_ | refine blk_alloc ?_ _)); exact BK176.out) hb); have n3_ := Aside0.mk (blk_below (g := gb177) (o := .cells #[.int .i64 0, .int .i64 0, .int .u64 0, .slice none 0 0, .slice none 0 0] 31 (0, 0)) (by (with_reducible repeat (first | refine blk_drewN ?_ _ | refine blk_drew ?_ | refine blk_alloc ?_ _)); refine blk_far ?_ NB177_176.out _; (with_reducible repeat (first | refine blk_drewN ?_ _ | refine blk_drew ?_ | refine blk_alloc ?_ _)); exact BK177.out) hb); have n4_ := Aside0.mk (below_step (by repeat (first | (with_reducible first | exact HB.out | apply below_alloc | apply pw_below_drewN | apply below_drew1 | refine below_set ?_ GE176.out | refine below_set ?_ GE177.out) | exact HB.out)) hb); clear HO183; clear BK176; clear BK177; clear HB; have HO183 := n0_; have HO186 := n1_; have BK176 := n2_; have BK177 := n3_; have HB := n4_; clear n0_ n1_ n2_ n3_ n4_; clear hb ho14; have hcz15_0 : w13.cell? ⟨gb176, 0, none⟩ = some (.int .i64 a0_0) := (blk_cell BK176.out 0).trans rfl; have hcz15_1 : w13.cell? ⟨gb176, 1, none⟩ = some (.int .i64 a0_1) := (blk_cell BK176.out 1).trans rfl; have hcz15_2 : w13.cell? ⟨gb176, 2, none⟩ = some (.int .u64 a0_2) := (blk_cell BK176.out 2).trans rfl; have hcz15_3 : w13.cell? ⟨gb176, 3, none⟩ = some (.slice Ao11 y181.length co11) := (blk_cell BK176.out 3).trans rfl; have hcz15_4 : w13.cell? ⟨gb176, 4, none⟩ = some (.slice A0_4 l0_4.length c0_4) := (blk_cell BK176.out 4).trans rfl; have hfz15_0 := blk_frozen BK176.out 0; have hfz15_1 := blk_frozen BK176.out 1; have hfz15_2 := blk_frozen BK176.out 2; have hfz15_3 := blk_frozen BK176.out 3; have hfz15_4 := blk_frozen BK176.out 4) | ((with_reducible refine gate_builtin (b := .append) (xs := #[.tmp 8, .tmp 10]) rfl ?_); at_builtin; refine Kd.R_append_rows k43 (w0 := w) w.heap.size rfl (.tmp 8) (.tmp 10) 29 43 (.agg #[(.int .i64 0), (.int .i64 0), (.int .i64 0), (.string ⟨#[]⟩), (.string ⟨#[]⟩), (.int .u64 0), (.int .u64 0)]) 72 rfl Try.underlying29 info43 rfl (by decide) (by omega) v185 y184 l0_4 _ _ _ (fun _ => True) (fun _ => False) rfl rfl ?aO ?aR (fun _ _ h => h) (fun _ h => h.elim) ?aF ?aB ?aS ?aL ?_; (case aR => repeat (first | exact (Kd.C_below HR0_4.out HB.out) | (with_reducible refine Kd.C_alloc ?_ _) | (with_reducible refine Kd.C_drewN ?_ _) | (with_reducible refine Kd.C_drew ?_))); (case aB => exact (by repeat (first | (with_reducible first | exact HB.out | apply below_alloc | apply pw_below_drewN | apply below_drew1 | refine below_set ?_ GE176.out | refine below_set ?_ GE177.out) | exact HB.out))); (case aF => exact (fun _ _ => trivial)); (case aO => exact (by (with_reducible repeat (first | apply Kd.R_alloc | apply Kd.R_drewN | apply Kd.R_drew)); exact HO186.out)); (case aS => exact (below_size (by repeat (first | (with_reducible first | exact HB.out | apply below_alloc | apply pw_below_drewN | apply below_drew1 | refine below_set ?_ GE176.out | refine below_set ?_ GE177.out) | exact HB.out)))); (case aL => have := LMc3.out; omega); intro v188 w16 ho hb hg hat; rw [← Ny187.out] at ho; have n0_ := Aside0.mk (blk_grown (g := gb176) (o := .cells #[.int .i64 a0_0, .int .i64 a0_1, .int .u64 a0_2, .slice Ao11 y181.length co11, .slice A0_4 l0_4.length c0_4] 31 (0, 0)) (by (with_reducible repeat (first | refine blk_drewN ?_ _ | refine blk_drew ?_ | refine blk_alloc ?_ _)); exact BK176.out) hg (Kd.R_ne HO186.out BK176.out (by decide))); have n1_ := Aside0.mk (blk_grown (g := gb177) (o := .cells #[.int .i64 0, .int .i64 0, .int .u64 0, .slice none 0 0, .slice none 0 0] 31 (0, 0)) (by (with_reducible repeat (first | refine blk_drewN ?_ _ | refine blk_drew ?_ | refine blk_alloc ?_ _)); exact BK177.out) hg (Kd.R_ne HO186.out BK177.out (by decide))); have n2_ := Aside0.mk (Kd.R_over' (by (with_reducible repeat (first | apply Kd.R_alloc | apply Kd.R_drewN | apply Kd.R_drew)); exact HO183.out) (Kd.R_typed (by (with_reducible repeat (first | apply Kd.R_alloc | apply Kd.R_drewN | apply Kd.R_drew)); exact HO186.out)) (by decide) hg); have n3_ := Aside0.mk (hb); have n4_ := Aside0.mk (ho); clear BK176; clear BK177; clear HO183; clear HB; clear HO186; have BK176 := n0_; have BK177 := n1_; have HO183 := n2_; have HB := n3_; have HO189 := n4_; clear n0_ n1_ n2_ n3_ n4_; clear ho hb hg hat; obtain ⟨Ao17, co17, eo17⟩ := Kd.R_slice HO189.out; subst eo17; have hcz18_0 : w16.cell? ⟨gb176, 0, none⟩ = some (.int .i64 a0_0) := (blk_cell BK176.out 0).trans rfl; have hcz18_1 : w16.cell? ⟨gb176, 1, none⟩ = some (.int .i64 a0_1) := (blk_cell BK176.out 1).trans rfl; have hcz18_2 : w16.cell? ⟨gb176, 2, none⟩ = some (.int .u64 a0_2) := (blk_cell BK176.out 2).trans rfl; have hcz18_3 : w16.cell? ⟨gb176, 3, none⟩ = some (.slice Ao11 y181.length co11) := (blk_cell BK176.out 3).trans rfl; have hcz18_4 : w16.cell? ⟨gb176, 4, none⟩ = some (.slice A0_4 l0_4.length c0_4) := (blk_cell BK176.out 4).trans rfl; have hfz18_0 := blk_frozen BK176.out 0; have hfz18_1 := blk_frozen BK176.out 1; have hfz18_2 := blk_frozen BK176.out 2; have hfz18_3 := blk_frozen BK176.out 3; have hfz18_4 := blk_frozen BK176.out 4; have hcz19_0 : w16.cell? ⟨gb177, 0, none⟩ = some (.int .i64 0) := (blk_cell BK177.out 0).trans rfl; have hcz19_1 : w16.cell? ⟨gb177, 1, none⟩ = some (.int .i64 0) := (blk_cell BK177.out 1).trans rfl; have hcz19_2 : w16.cell? ⟨gb177, 2, none⟩ = some (.int .u64 0) := (blk_cell BK177.out 2).trans rfl; have hcz19_3 : w16.cell? ⟨gb177, 3, none⟩ = some (.slice none 0 0) := (blk_cell BK177.out 3).trans rfl; have hcz19_4 : w16.cell? ⟨gb177, 4, none⟩ = some (.slice none 0 0) := (blk_cell BK177.out 4).trans rfl; have hfz19_0 := blk_frozen BK177.out 0; have hfz19_1 := blk_frozen BK177.out 1; have hfz19_2 := blk_frozen BK177.out 2; have hfz19_3 := blk_frozen BK177.out 3; have hfz19_4 := blk_frozen BK177.out 4))
      refine bodyPost_ret (results_cell_row rfl _ _ gb177 31 #[.int .i64 a0_0, .int .i64 a0_1, .int .u64 a0_2, .slice Ao11 y181.length co11, .slice Ao17 y187.length co17] (0, 0) _ rfl (by (with_reducible repeat (first | refine blk_drewN ?_ _ | refine blk_drew ?_ | refine blk_alloc ?_ _)); refine blk_put (cs := #[.int .i64 a0_0, .int .i64 a0_1, .int .u64 a0_2, .slice Ao11 y181.length co11, .slice none 0 0]) ?_ 4 _ rfl; (with_reducible repeat (first | refine blk_drewN ?_ _ | refine blk_drew ?_ | refine blk_alloc ?_ _)); refine blk_put (cs := #[.int .i64 a0_0, .int .i64 a0_1, .int .u64 a0_2, .slice none 0 0, .slice none 0 0]) ?_ 3 _ rfl; (with_reducible repeat (first | refine blk_drewN ?_ _ | refine blk_drew ?_ | refine blk_alloc ?_ _)); refine blk_put (cs := #[.int .i64 a0_0, .int .i64 a0_1, .int .u64 0, .slice none 0 0, .slice none 0 0]) ?_ 2 _ rfl; (with_reducible repeat (first | refine blk_drewN ?_ _ | refine blk_drew ?_ | refine blk_alloc ?_ _)); refine blk_put (cs := #[.int .i64 a0_0, .int .i64 0, .int .u64 0, .slice none 0 0, .slice none 0 0]) ?_ 1 _ rfl; (with_reducible repeat (first | refine blk_drewN ?_ _ | refine blk_drew ?_ | refine blk_alloc ?_ _)); refine blk_put (cs := #[.int .i64 0, .int .i64 0, .int .u64 0, .slice none 0 0, .slice none 0 0]) ?_ 0 _ rfl; (with_reducible repeat (first | refine blk_drewN ?_ _ | refine blk_drew ?_ | refine blk_alloc ?_ _)); refine blk_far ?_ NB177_176.out _; (with_reducible repeat (first | refine blk_drewN ?_ _ | refine blk_drew ?_ | refine blk_alloc ?_ _)); exact BK177.out) Try.underlying31 rfl (by kernel_rfl)) rfl ?_
      exact ⟨_, _, by first | rfl | (simp [errW_none, errW_some] <;> rfl) | (simp [*, errW_none, errW_some] <;> rfl), by (with_reducible repeat (first | apply Kd.R_alloc | apply Kd.R_drewN | apply Kd.R_drew)); exact Kd.R_mono (Kd.R_far (p := ⟨gb177, 4, none⟩) (Kd.R_far (p := ⟨gb177, 3, none⟩) (Kd.R_far (p := ⟨gb177, 2, none⟩) (Kd.R_far (p := ⟨gb177, 1, none⟩) (Kd.R_far (p := ⟨gb177, 0, none⟩) (Kd.R_far (p := ⟨gb176, 4, none⟩) (Kd.R_types (Kd.R_types HO183.out BK176.out (by decide)) BK177.out (by decide)) (fun _ hk => hk.1.2) (.slice Ao17 y187.length co17)) (fun _ hk => hk.2) (.int .i64 a0_0)) (fun _ hk => hk.2) (.int .i64 a0_1)) (fun _ hk => hk.2) (.int .u64 a0_2)) (fun _ hk => hk.2) (.slice Ao11 y181.length co11)) (fun _ hk => hk.2) (.slice Ao17 y187.length co17)) (fun _ hk => trivial), by (with_reducible repeat (first | apply Kd.R_alloc | apply Kd.R_drewN | apply Kd.R_drew)); exact Kd.R_mono (Kd.R_far (p := ⟨gb177, 4, none⟩) (Kd.R_far (p := ⟨gb177, 3, none⟩) (Kd.R_far (p := ⟨gb177, 2, none⟩) (Kd.R_far (p := ⟨gb177, 1, none⟩) (Kd.R_far (p := ⟨gb177, 0, none⟩) (Kd.R_far (p := ⟨gb176, 4, none⟩) (Kd.R_types (Kd.R_types HO189.out BK176.out (by decide)) BK177.out (by decide)) (fun _ hk => hk.1.2) (.slice Ao17 y187.length co17)) (fun _ hk => hk.2) (.int .i64 a0_0)) (fun _ hk => hk.2) (.int .i64 a0_1)) (fun _ hk => hk.2) (.int .u64 a0_2)) (fun _ hk => hk.2) (.slice Ao11 y181.length co11)) (fun _ hk => hk.2) (.slice Ao17 y187.length co17)) (fun _ hk => trivial), by repeat (first | (with_reducible first | exact HB.out | apply below_alloc | apply pw_below_drewN | apply below_drew1 | refine below_set ?_ GE176.out | refine below_set ?_ GE177.out) | exact HB.out)⟩
    · rw [if_neg c3] at H
      exact absurd H (by simp)
  · rw [if_neg c2] at H
    exact absurd H (by simp)

end Go.Proofs.Ytppldgbgdgeegaa.G

/- Printed by the session's program over the kit's print, out of the translation: functions as plain Lean functions, and the proofs that the calls come to them. -/
namespace Go.Proofs.Ytppldgbgdgeegaa.G
open Go.RowKit Go.Proofs.YtppldgbgdgeegaaW.PrintWords Go.Proofs.YtppldgbgdgeegaaW.PrintLast Go.Proofs.YtppldgbgdgeegaaW.PrintMore
attribute [local go_sem] max2_int min2_int max_two min_two max_three min_three max_four min_four   -- for this text's walks alone
set_option linter.unusedVariables false
set_option linter.unusedSimpArgs false

theorem eqA36 (d : Nat) (w : World) (x0 y0 : Int) (x1 y1 : Int) (x2 y2 : ByteArray) (x3 y3 : ByteArray) (x4 y4 : Int) (x5 y5 : Int) :
    (Op.equalIn (d + 2) 36 (.agg #[.int .i64 x0, .int .i64 x1, .string x2, .string x3, .int .u64 x4, .int .u64 x5]) (.agg #[.int .i64 y0, .int .i64 y1, .string y2, .string y3, .int .u64 y4, .int .u64 y5])).run Try.prog w = .ok (x0 == y0 && (x1 == y1 && (x2.toList == y2.toList && (x3.toList == y3.toList && (x4 == y4 && (x5 == y5)))))) w := by
  refine eqA_of Try.underlying36 (by kernel_rfl) ?_
  refine eqf_cons (by rfl) (by go_simp; rfl) (by go_simp; rfl) (by go_simp) ?_
  refine eqf_cons (by rfl) (by go_simp; rfl) (by go_simp; rfl) (by go_simp) ?_
  refine eqf_cons (by rfl) (by go_simp; rfl) (by go_simp; rfl) (by go_simp) ?_
  refine eqf_cons (by rfl) (by go_simp; rfl) (by go_simp; rfl) (by go_simp) ?_
  refine eqf_cons (by rfl) (by go_simp; rfl) (by go_simp; rfl) (by go_simp) ?_
  exact eqf_last (by rfl) (by go_simp; rfl) (by go_simp; rfl) (by go_simp)
theorem eqA43 (d : Nat) (w : World) (x0 y0 : Int) (x1 y1 : Int) (x2 y2 : Int) (x3 y3 : ByteArray) (x4 y4 : ByteArray) (x5 y5 : Int) (x6 y6 : Int) :
    (Op.equalIn (d + 3) 43 (.agg #[.int .i64 x0, .int .i64 x1, .int .i64 x2, .string x3, .string x4, .int .u64 x5, .int .u64 x6]) (.agg #[.int .i64 y0, .int .i64 y1, .int .i64 y2, .string y3, .string y4, .int .u64 y5, .int .u64 y6])).run Try.prog w = .ok (x0 == y0 && ((x1 == y1 && (x2 == y2 && (x3.toList == y3.toList && (x4.toList == y4.toList && (x5 == y5 && (x6 == y6)))))))) w := by
  refine eqA_of Try.underlying43 (by kernel_rfl) ?_
  refine eqf_cons (by rfl) (by go_simp; rfl) (by go_simp; rfl) (by go_simp) ?_
  exact eqf_last (by rfl) (by go_simp) (by go_simp) (eqA36 (d + 0) w _ _ _ _ _ _ _ _ _ _ _ _)
end Go.Proofs.Ytppldgbgdgeegaa.G

/- Printed by the session's program over the kit's print, out of the translation: functions as plain Lean functions, and the proofs that the calls come to them. -/
namespace Go.Proofs.Ytppldgbgdgeegaa.G
open Go.RowKit Go.Proofs.YtppldgbgdgeegaaW.PrintWords Go.Proofs.YtppldgbgdgeegaaW.PrintLast Go.Proofs.YtppldgbgdgeegaaW.PrintMore
attribute [local go_sem] max2_int min2_int max_two min_two max_three min_three max_four min_four   -- for this text's walks alone
set_option linter.unusedVariables false
set_option linter.unusedSimpArgs false

theorem eqA45 (d : Nat) (w : World) (x0 y0 : Int) (x1 y1 : Int) :
    (Op.equalIn (d + 2) 45 (.agg #[.int .i64 x0, .int .i64 x1]) (.agg #[.int .i64 y0, .int .i64 y1])).run Try.prog w = .ok (x0 == y0 && (x1 == y1)) w := by
  refine eqA_of Try.underlying45 (by kernel_rfl) ?_
  refine eqf_cons (by rfl) (by go_simp; rfl) (by go_simp; rfl) (by go_simp) ?_
  exact eqf_last (by rfl) (by go_simp; rfl) (by go_simp; rfl) (by go_simp)
end Go.Proofs.Ytppldgbgdgeegaa.G

/- Printed by the session's program over the kit's print, out of the translation: functions as plain Lean functions, and the proofs that the calls come to them. -/
namespace Go.Proofs.Ytppldgbgdgeegaa.G
open Go.RowKit Go.Proofs.YtppldgbgdgeegaaW.PrintWords Go.Proofs.YtppldgbgdgeegaaW.PrintLast Go.Proofs.YtppldgbgdgeegaaW.PrintMore
attribute [local go_sem] max2_int min2_int max_two min_two max_three min_three max_four min_four   -- for this text's walks alone
set_option linter.unusedVariables false
set_option linter.unusedSimpArgs false

attribute [local go_sem high] eqA43 eqA45
/-! ### morainelaw15_same: function 8 -/
mutual
def morainelaw15_same.j0 : Nat → Bool → Int → Int → Int → List (S45) → List (S43) → Int → Int → Int → List (S45) → List (S43) → Option (Bool)
  | 0, _, _, _, _, _, _, _, _, _, _, _ => none
  | k + 1, x43, x118000, x118001, x118002, x118003, x118004, x119000, x119001, x119002, x119003, x119004 => if x43 = true then (some false) else (morainelaw15_same.l0 k 0 x118000 x118001 x118002 x118003 x118004 x119000 x119001 x119002 x119003 x119004)
def morainelaw15_same.l0 : Nat → Int → Int → Int → Int → List (S45) → List (S43) → Int → Int → Int → List (S45) → List (S43) → Option (Bool)
  | 0, _, _, _, _, _, _, _, _, _, _, _ => none
  | k + 1, x5, x118000, x118001, x118002, x118003, x118004, x119000, x119001, x119002, x119003, x119004 => if x5 < (x118003.length : Int) then (if 0 ≤ x5 then (if x5 < (x119003.length : Int) then (if (!(((rd_T45 x118003 x5).f0) == ((rd_T45 x119003 x5).f0)) || (!(((rd_T45 x118003 x5).f1) == ((rd_T45 x119003 x5).f1)))) = true then (some false) else (morainelaw15_same.l0 k (wrap64 (x5 + 1)) x118000 x118001 x118002 x118003 x118004 x119000 x119001 x119002 x119003 x119004)) else (none)) else (none)) else (morainelaw15_same.l1 k 0 x118000 x118001 x118002 x118003 x118004 x119000 x119001 x119002 x119003 x119004)
def morainelaw15_same.l1 : Nat → Int → Int → Int → Int → List (S45) → List (S43) → Int → Int → Int → List (S45) → List (S43) → Option (Bool)
  | 0, _, _, _, _, _, _, _, _, _, _, _ => none
  | k + 1, x6, x118000, x118001, x118002, x118003, x118004, x119000, x119001, x119002, x119003, x119004 => if x6 < (x118004.length : Int) then (if 0 ≤ x6 then (if x6 < (x119004.length : Int) then (if (!(((rd_T43 x118004 x6).f0) == ((rd_T43 x119004 x6).f0)) || ((!(((rd_T43 x118004 x6).f1.f0) == ((rd_T43 x119004 x6).f1.f0)) || (!(((rd_T43 x118004 x6).f1.f1) == ((rd_T43 x119004 x6).f1.f1)) || (!((((rd_T43 x118004 x6).f1.f2).toList) == (((rd_T43 x119004 x6).f1.f2).toList)) || (!((((rd_T43 x118004 x6).f1.f3).toList) == (((rd_T43 x119004 x6).f1.f3).toList)) || (!(((rd_T43 x118004 x6).f1.f4) == ((rd_T43 x119004 x6).f1.f4)) || (!(((rd_T43 x118004 x6).f1.f5) == ((rd_T43 x119004 x6).f1.f5)))))))))) = true then (some false) else (morainelaw15_same.l1 k (wrap64 (x6 + 1)) x118000 x118001 x118002 x118003 x118004 x119000 x119001 x119002 x119003 x119004)) else (none)) else (none)) else (some true)
end
def morainelaw15_same.f (k : Nat) (a0_0 : Int) (a0_1 : Int) (a0_2 : Int) (l0_3 : List (S45)) (l0_4 : List (S43)) (a1_0 : Int) (a1_1 : Int) (a1_2 : Int) (l1_3 : List (S45)) (l1_4 : List (S43)) : Option (Bool) := if a0_0 = a1_0 then (if a0_1 = a1_1 then (if a0_2 = a1_2 then (if (l0_3.length : Int) = (l1_3.length : Int) then (morainelaw15_same.j0 k ((l0_4.length : Int) != (l1_4.length : Int)) a0_0 a0_1 a0_2 l0_3 l0_4 a1_0 a1_1 a1_2 l1_3 l1_4) else (morainelaw15_same.j0 k true a0_0 a0_1 a0_2 l0_3 l0_4 a1_0 a1_1 a1_2 l1_3 l1_4)) else (morainelaw15_same.j0 k true a0_0 a0_1 a0_2 l0_3 l0_4 a1_0 a1_1 a1_2 l1_3 l1_4)) else (morainelaw15_same.j0 k true a0_0 a0_1 a0_2 l0_3 l0_4 a1_0 a1_1 a1_2 l1_3 l1_4)) else (morainelaw15_same.j0 k true a0_0 a0_1 a0_2 l0_3 l0_4 a1_0 a1_1 a1_2 l1_3 l1_4)
theorem morainelaw15_same.mono_l : ∀ k, (∀ y0 y1 y2 y3 y4 y5 y6 y7 y8 y9 y10, LeO (morainelaw15_same.j0 k y0 y1 y2 y3 y4 y5 y6 y7 y8 y9 y10) (morainelaw15_same.j0 (k + 1) y0 y1 y2 y3 y4 y5 y6 y7 y8 y9 y10)) ∧ (∀ y0 y1 y2 y3 y4 y5 y6 y7 y8 y9 y10, LeO (morainelaw15_same.l0 k y0 y1 y2 y3 y4 y5 y6 y7 y8 y9 y10) (morainelaw15_same.l0 (k + 1) y0 y1 y2 y3 y4 y5 y6 y7 y8 y9 y10)) ∧ (∀ y0 y1 y2 y3 y4 y5 y6 y7 y8 y9 y10, LeO (morainelaw15_same.l1 k y0 y1 y2 y3 y4 y5 y6 y7 y8 y9 y10) (morainelaw15_same.l1 (k + 1) y0 y1 y2 y3 y4 y5 y6 y7 y8 y9 y10))
  | 0 => ⟨fun _ _ _ _ _ _ _ _ _ _ _ r h => by simp [morainelaw15_same.j0] at h, fun _ _ _ _ _ _ _ _ _ _ _ r h => by simp [morainelaw15_same.l0] at h, fun _ _ _ _ _ _ _ _ _ _ _ r h => by simp [morainelaw15_same.l1] at h⟩
  | k + 1 => by
    obtain ⟨ih0, ih1, ih2⟩ := morainelaw15_same.mono_l k
    refine ⟨?_, ?_, ?_⟩
    · intro y0 y1 y2 y3 y4 y5 y6 y7 y8 y9 y10
      unfold morainelaw15_same.j0
      repeat' first
      | (with_reducible exact ih0 _ _ _ _ _ _ _ _ _ _ _)
      | (with_reducible exact ih1 _ _ _ _ _ _ _ _ _ _ _)
      | (with_reducible exact ih2 _ _ _ _ _ _ _ _ _ _ _)
      | (with_reducible exact LeO.refl _)
      | (with_reducible exact LeO.none _)
      | (with_reducible refine LeO.ite ?_ ?_)
      | (with_reducible refine LeO.bind ?_ (fun _ => ?_))
      | exact ih0 _ _ _ _ _ _ _ _ _ _ _
      | exact ih1 _ _ _ _ _ _ _ _ _ _ _
      | exact ih2 _ _ _ _ _ _ _ _ _ _ _
      | exact LeO.none _
      | refine LeO.ite ?_ ?_
      | refine LeO.bind ?_ (fun _ => ?_)
    · intro y0 y1 y2 y3 y4 y5 y6 y7 y8 y9 y10
      unfold morainelaw15_same.l0
      repeat' first
      | (with_reducible exact ih0 _ _ _ _ _ _ _ _ _ _ _)
      | (with_reducible exact ih1 _ _ _ _ _ _ _ _ _ _ _)
      | (with_reducible exact ih2 _ _ _ _ _ _ _ _ _ _ _)
      | (with_reducible exact LeO.refl _)
      | (with_reducible exact LeO.none _)
      | (with_reducible refine LeO.ite ?_ ?_)
      | (with_reducible refine LeO.bind ?_ (fun _ => ?_))
      | exact ih0 _ _ _ _ _ _ _ _ _ _ _
      | exact ih1 _ _ _ _ _ _ _ _ _ _ _
      | exact ih2 _ _ _ _ _ _ _ _ _ _ _
      | exact LeO.none _
      | refine LeO.ite ?_ ?_
      | refine LeO.bind ?_ (fun _ => ?_)
    · intro y0 y1 y2 y3 y4 y5 y6 y7 y8 y9 y10
      unfold morainelaw15_same.l1
      repeat' first
      | (with_reducible exact ih0 _ _ _ _ _ _ _ _ _ _ _)
      | (with_reducible exact ih1 _ _ _ _ _ _ _ _ _ _ _)
      | (with_reducible exact ih2 _ _ _ _ _ _ _ _ _ _ _)
      | (with_reducible exact LeO.refl _)
      | (with_reducible exact LeO.none _)
      | (with_reducible refine LeO.ite ?_ ?_)
      | (with_reducible refine LeO.bind ?_ (fun _ => ?_))
      | exact ih0 _ _ _ _ _ _ _ _ _ _ _
      | exact ih1 _ _ _ _ _ _ _ _ _ _ _
      | exact ih2 _ _ _ _ _ _ _ _ _ _ _
      | exact LeO.none _
      | refine LeO.ite ?_ ?_
      | refine LeO.bind ?_ (fun _ => ?_)
theorem morainelaw15_same.mono : ∀ a0 a1 a2 a3 a4 a5 a6 a7 a8 a9 k, LeO (morainelaw15_same.f k a0 a1 a2 a3 a4 a5 a6 a7 a8 a9) (morainelaw15_same.f (k + 1) a0 a1 a2 a3 a4 a5 a6 a7 a8 a9) := by
  intro a0 a1 a2 a3 a4 a5 a6 a7 a8 a9 k
  obtain ⟨ih0, ih1, ih2⟩ := morainelaw15_same.mono_l k
  unfold morainelaw15_same.f
  repeat' first
      | (with_reducible exact ih0 _ _ _ _ _ _ _ _ _ _ _)
      | (with_reducible exact ih1 _ _ _ _ _ _ _ _ _ _ _)
      | (with_reducible exact ih2 _ _ _ _ _ _ _ _ _ _ _)
      | (with_reducible exact LeO.refl _)
      | (with_reducible exact LeO.none _)
      | (with_reducible refine LeO.ite ?_ ?_)
      | (with_reducible refine LeO.bind ?_ (fun _ => ?_))
      | exact ih0 _ _ _ _ _ _ _ _ _ _ _
      | exact ih1 _ _ _ _ _ _ _ _ _ _ _
      | exact ih2 _ _ _ _ _ _ _ _ _ _ _
      | exact LeO.none _
      | refine LeO.ite ?_ ?_
      | refine LeO.bind ?_ (fun _ => ?_)
set_option maxHeartbeats 8000000 in
set_option maxRecDepth 100000 in
theorem morainelaw15_same.calls (k : Nat) (a0_0 : Int) (a0_1 : Int) (a0_2 : Int) (A0_3 : Option Addr) (c0_3 : Nat) (l0_3 : List (S45)) (A0_4 : Option Addr) (c0_4 : Nat) (l0_4 : List (S43)) (a1_0 : Int) (a1_1 : Int) (a1_2 : Int) (A1_3 : Option Addr) (c1_3 : Nat) (l1_3 : List (S45)) (A1_4 : Option Addr) (c1_4 : Nat) (l1_4 : List (S43)) (r : Bool) (w : World) (hr0_3 : Kd.C k45 w A0_3 l0_3.length l0_3) (hc0_3 : l0_3.length ≤ c0_3) (hr0_4 : Kd.C k43 w A0_4 l0_4.length l0_4) (hc0_4 : l0_4.length ≤ c0_4) (hr1_3 : Kd.C k45 w A1_3 l1_3.length l1_3) (hc1_3 : l1_3.length ≤ c1_3) (hr1_4 : Kd.C k43 w A1_4 l1_4.length l1_4) (hc1_4 : l1_4.length ≤ c1_4) (h : morainelaw15_same.f k a0_0 a0_1 a0_2 l0_3 l0_4 a1_0 a1_1 a1_2 l1_3 l1_4 = some r) :
    Calls Try.prog 8 #[.agg #[.int .i64 a0_0, .int .i64 a0_1, .int .u64 a0_2, .slice A0_3 l0_3.length c0_3, .slice A0_4 l0_4.length c0_4], .agg #[.int .i64 a1_0, .int .i64 a1_1, .int .u64 a1_2, .slice A1_3 l1_3.length c1_3, .slice A1_4 l1_4.length c1_4]] w fun e w' => e = .returned (.bool r) ∧ Below w.heap.size w w' := by
  have hu31 := Try.underlying31
  have hu45 := Try.underlying45
  have hu43 := Try.underlying43
  have HR0_3 := Aside0.mk hr0_3
  have HC0_3 := Aside0.mk hc0_3
  clear hr0_3 hc0_3
  have HR0_4 := Aside0.mk hr0_4
  have HC0_4 := Aside0.mk hc0_4
  clear hr0_4 hc0_4
  have HR1_3 := Aside0.mk hr1_3
  have HC1_3 := Aside0.mk hc1_3
  clear hr1_3 hc1_3
  have HR1_4 := Aside0.mk hr1_4
  have HC1_4 := Aside0.mk hc1_4
  clear hr1_4 hc1_4
  have HB := Aside0.mk (Below.refl w.heap.size w)
  have H : (if a0_0 = a1_0 then (if a0_1 = a1_1 then (if a0_2 = a1_2 then (if (l0_3.length : Int) = (l1_3.length : Int) then (morainelaw15_same.j0 k ((l0_4.length : Int) != (l1_4.length : Int)) a0_0 a0_1 a0_2 l0_3 l0_4 a1_0 a1_1 a1_2 l1_3 l1_4) else (morainelaw15_same.j0 k true a0_0 a0_1 a0_2 l0_3 l0_4 a1_0 a1_1 a1_2 l1_3 l1_4)) else (morainelaw15_same.j0 k true a0_0 a0_1 a0_2 l0_3 l0_4 a1_0 a1_1 a1_2 l1_3 l1_4)) else (morainelaw15_same.j0 k true a0_0 a0_1 a0_2 l0_3 l0_4 a1_0 a1_1 a1_2 l1_3 l1_4)) else (morainelaw15_same.j0 k true a0_0 a0_1 a0_2 l0_3 l0_4 a1_0 a1_1 a1_2 l1_3 l1_4)) = some r := h
  clear h
  have HC3 := Aside0.mk H
  clear H
  go_enter Try.func8, Try.ntmps8
  go_upto_region 1 with (first | ((with_reducible refine gate_dst (N := 2) rfl ?_); (try (refine gate_guard (by rfl) ?_; dsimp only)); refine box_event ?hg (N := 2) ?hd (cs := #[.int .i64 a0_0, .int .i64 a0_1, .int .u64 a0_2, .slice A0_3 l0_3.length c0_3, .slice A0_4 l0_4.length c0_4]) (t := 31) ?hr ?_; (case hd => rfl); (case hg => rfl); (case hr => first | (go_simp; done) | (go_simp; rfl)); intro gb117 hg w4 hbox hb; have n0_ := Aside0.mk (below_step (by repeat (first | (with_reducible first | exact HB.out | apply below_alloc | apply pw_below_drewN | apply below_drew1) | exact HB.out)) hb); have n1_ := Aside0.mk (hbox); have n2_ := Aside0.mk ((by rw [hg]; exact (below_size (by repeat (first | (with_reducible first | exact HB.out | apply below_alloc | apply pw_below_drewN | apply below_drew1) | exact HB.out))) : w.heap.size ≤ gb117)); have n3_ := Aside0.mk ((by rw [hg]; exact (below_size (by repeat (first | (with_reducible first | exact HB.out | apply below_alloc | apply pw_below_drewN | apply below_drew1) | exact HB.out))) : w.heap.size ≤ gb117)); clear HB; have HB := n0_; have BK117 := n1_; have GW117 := n2_; have GE117 := n3_; clear n0_ n1_ n2_ n3_; clear hb hbox hg) | ((with_reducible refine gate_dst (N := 3) rfl ?_); (try (refine gate_guard (by rfl) ?_; dsimp only)); refine box_event ?hg (N := 3) ?hd (cs := #[.int .i64 a1_0, .int .i64 a1_1, .int .u64 a1_2, .slice A1_3 l1_3.length c1_3, .slice A1_4 l1_4.length c1_4]) (t := 31) ?hr ?_; (case hd => rfl); (case hg => rfl); (case hr => first | (go_simp; done) | (go_simp; rfl)); intro gb118 hg w5 hbox hb; have n0_ := Aside0.mk (blk_below (g := gb117) (o := .cells #[.int .i64 a0_0, .int .i64 a0_1, .int .u64 a0_2, .slice A0_3 l0_3.length c0_3, .slice A0_4 l0_4.length c0_4] 31 (0, 0)) (by (with_reducible repeat (first | refine blk_drewN ?_ _ | refine blk_drew ?_ | refine blk_alloc ?_ _)); exact BK117.out) hb); have n1_ := Aside0.mk (below_step (by repeat (first | (with_reducible first | exact HB.out | apply below_alloc | apply pw_below_drewN | apply below_drew1 | refine below_set ?_ GE117.out) | exact HB.out)) hb); have n2_ := Aside0.mk (hbox); have n3_ := Aside0.mk ((by rw [hg]; exact (below_size (by repeat (first | (with_reducible first | exact HB.out | apply below_alloc | apply pw_below_drewN | apply below_drew1 | refine below_set ?_ GE117.out) | exact HB.out))) : w.heap.size ≤ gb118)); have n4_ := Aside0.mk ((by rw [hg]; exact (below_size (by repeat (first | (with_reducible first | exact HB.out | apply below_alloc | apply pw_below_drewN | apply below_drew1 | refine below_set ?_ GE117.out) | exact HB.out))) : w.heap.size ≤ gb118)); have n5_ := Aside0.mk ((by rw [hg]; exact Nat.ne_of_lt (blk_lt (g := gb117) (o := .cells #[.int .i64 a0_0, .int .i64 a0_1, .int .u64 a0_2, .slice A0_3 l0_3.length c0_3, .slice A0_4 l0_4.length c0_4] 31 (0, 0)) (by (with_reducible repeat (first | refine blk_drewN ?_ _ | refine blk_drew ?_ | refine blk_alloc ?_ _)); exact BK117.out)) : gb117 ≠ gb118)); have n6_ := Aside0.mk ((by rw [hg]; exact Nat.ne_of_gt (blk_lt (g := gb117) (o := .cells #[.int .i64 a0_0, .int .i64 a0_1, .int .u64 a0_2, .slice A0_3 l0_3.length c0_3, .slice A0_4 l0_4.length c0_4] 31 (0, 0)) (by (with_reducible repeat (first | refine blk_drewN ?_ _ | refine blk_drew ?_ | refine blk_alloc ?_ _)); exact BK117.out)) : gb118 ≠ gb117)); clear BK117; clear HB; have BK117 := n0_; have HB := n1_; have BK118 := n2_; have GW118 := n3_; have GE118 := n4_; have NB117_118 := n5_; have NB118_117 := n6_; clear n0_ n1_ n2_ n3_ n4_ n5_ n6_; clear hb hbox hg))
  repeat (go_quiet (first | ((with_reducible refine gate_dst (N := 2) rfl ?_); (try (refine gate_guard (by rfl) ?_; dsimp only)); refine box_event ?hg (N := 2) ?hd (cs := #[.int .i64 a0_0, .int .i64 a0_1, .int .u64 a0_2, .slice A0_3 l0_3.length c0_3, .slice A0_4 l0_4.length c0_4]) (t := 31) ?hr ?_; (case hd => rfl); (case hg => rfl); (case hr => first | (go_simp; done) | (go_simp; rfl)); intro gb117 hg w4 hbox hb; have n0_ := Aside0.mk (below_step (by repeat (first | (with_reducible first | exact HB.out | apply below_alloc | apply pw_below_drewN | apply below_drew1) | exact HB.out)) hb); have n1_ := Aside0.mk (hbox); have n2_ := Aside0.mk ((by rw [hg]; exact (below_size (by repeat (first | (with_reducible first | exact HB.out | apply below_alloc | apply pw_below_drewN | apply below_drew1) | exact HB.out))) : w.heap.size ≤ gb117)); have n3_ := Aside0.mk ((by rw [hg]; exact (below_size (by repeat (first | (with_reducible first | exact HB.out | apply below_alloc | apply pw_below_drewN | apply below_drew1) | exact HB.out))) : w.heap.size ≤ gb117)); clear HB; have HB := n0_; have BK117 := n1_; have GW117 := n2_; have GE117 := n3_; clear n0_ n1_ n2_ n3_; clear hb hbox hg) | ((with_reducible refine gate_dst (N := 3) rfl ?_); (try (refine gate_guard (by rfl) ?_; dsimp only)); refine box_event ?hg (N := 3) ?hd (cs := #[.int .i64 a1_0, .int .i64 a1_1, .int .u64 a1_2, .slice A1_3 l1_3.length c1_3, .slice A1_4 l1_4.length c1_4]) (t := 31) ?hr ?_; (case hd => rfl); (case hg => rfl); (case hr => first | (go_simp; done) | (go_simp; rfl)); intro gb118 hg w5 hbox hb; have n0_ := Aside0.mk (blk_below (g := gb117) (o := .cells #[.int .i64 a0_0, .int .i64 a0_1, .int .u64 a0_2, .slice A0_3 l0_3.length c0_3, .slice A0_4 l0_4.length c0_4] 31 (0, 0)) (by (with_reducible repeat (first | refine blk_drewN ?_ _ | refine blk_drew ?_ | refine blk_alloc ?_ _)); exact BK117.out) hb); have n1_ := Aside0.mk (below_step (by repeat (first | (with_reducible first | exact HB.out | apply below_alloc | apply pw_below_drewN | apply below_drew1 | refine below_set ?_ GE117.out) | exact HB.out)) hb); have n2_ := Aside0.mk (hbox); have n3_ := Aside0.mk ((by rw [hg]; exact (below_size (by repeat (first | (with_reducible first | exact HB.out | apply below_alloc | apply pw_below_drewN | apply below_drew1 | refine below_set ?_ GE117.out) | exact HB.out))) : w.heap.size ≤ gb118)); have n4_ := Aside0.mk ((by rw [hg]; exact (below_size (by repeat (first | (with_reducible first | exact HB.out | apply below_alloc | apply pw_below_drewN | apply below_drew1 | refine below_set ?_ GE117.out) | exact HB.out))) : w.heap.size ≤ gb118)); have n5_ := Aside0.mk ((by rw [hg]; exact Nat.ne_of_lt (blk_lt (g := gb117) (o := .cells #[.int .i64 a0_0, .int .i64 a0_1, .int .u64 a0_2, .slice A0_3 l0_3.length c0_3, .slice A0_4 l0_4.length c0_4] 31 (0, 0)) (by (with_reducible repeat (first | refine blk_drewN ?_ _ | refine blk_drew ?_ | refine blk_alloc ?_ _)); exact BK117.out)) : gb117 ≠ gb118)); have n6_ := Aside0.mk ((by rw [hg]; exact Nat.ne_of_gt (blk_lt (g := gb117) (o := .cells #[.int .i64 a0_0, .int .i64 a0_1, .int .u64 a0_2, .slice A0_3 l0_3.length c0_3, .slice A0_4 l0_4.length c0_4] 31 (0, 0)) (by (with_reducible repeat (first | refine blk_drewN ?_ _ | refine blk_drew ?_ | refine blk_alloc ?_ _)); exact BK117.out)) : gb118 ≠ gb117)); clear BK117; clear HB; have BK117 := n0_; have HB := n1_; have BK118 := n2_; have GW118 := n3_; have GE118 := n4_; have NB117_118 := n5_; have NB118_117 := n6_; clear n0_ n1_ n2_ n3_ n4_ n5_ n6_; clear hb hbox hg)); go_upto_region 1 with (first | ((with_reducible refine gate_dst (N := 2) rfl ?_); (try (refine gate_guard (by rfl) ?_; dsimp only)); refine box_event ?hg (N := 2) ?hd (cs := #[.int .i64 a0_0, .int .i64 a0_1, .int .u64 a0_2, .slice A0_3 l0_3.length c0_3, .slice A0_4 l0_4.length c0_4]) (t := 31) ?hr ?_; (case hd => rfl); (case hg => rfl); (case hr => first | (go_simp; done) | (go_simp; rfl)); intro gb117 hg w4 hbox hb; have n0_ := Aside0.mk (below_step (by repeat (first | (with_reducible first | exact HB.out | apply below_alloc | apply pw_below_drewN | apply below_drew1) | exact HB.out)) hb); have n1_ := Aside0.mk (hbox); have n2_ := Aside0.mk ((by rw [hg]; exact (below_size (by repeat (first | (with_reducible first | exact HB.out | apply below_alloc | apply pw_below_drewN | apply below_drew1) | exact HB.out))) : w.heap.size ≤ gb117)); have n3_ := Aside0.mk ((by rw [hg]; exact (below_size (by repeat (first | (with_reducible first | exact HB.out | apply below_alloc | apply pw_below_drewN | apply below_drew1) | exact HB.out))) : w.heap.size ≤ gb117)); clear HB; have HB := n0_; have BK117 := n1_; have GW117 := n2_; have GE117 := n3_; clear n0_ n1_ n2_ n3_; clear hb hbox hg) | ((with_reducible refine gate_dst (N := 3) rfl ?_); (try (refine gate_guard (by rfl) ?_; dsimp only)); refine box_event ?hg (N := 3) ?hd (cs := #[.int .i64 a1_0, .int .i64 a1_1, .int .u64 a1_2, .slice A1_3 l1_3.length c1_3, .slice A1_4 l1_4.length c1_4]) (t := 31) ?hr ?_; (case hd => rfl); (case hg => rfl); (case hr => first | (go_simp; done) | (go_simp; rfl)); intro gb118 hg w5 hbox hb; have n0_ := Aside0.mk (blk_below (g := gb117) (o := .cells #[.int .i64 a0_0, .int .i64 a0_1, .int .u64 a0_2, .slice A0_3 l0_3.length c0_3, .slice A0_4 l0_4.length c0_4] 31 (0, 0)) (by (with_reducible repeat (first | refine blk_drewN ?_ _ | refine blk_drew ?_ | refine blk_alloc ?_ _)); exact BK117.out) hb); have n1_ := Aside0.mk (below_step (by repeat (first | (with_reducible first | exact HB.out | apply below_alloc | apply pw_below_drewN | apply below_drew1 | refine below_set ?_ GE117.out) | exact HB.out)) hb); have n2_ := Aside0.mk (hbox); have n3_ := Aside0.mk ((by rw [hg]; exact (below_size (by repeat (first | (with_reducible first | exact HB.out | apply below_alloc | apply pw_below_drewN | apply below_drew1 | refine below_set ?_ GE117.out) | exact HB.out))) : w.heap.size ≤ gb118)); have n4_ := Aside0.mk ((by rw [hg]; exact (below_size (by repeat (first | (with_reducible first | exact HB.out | apply below_alloc | apply pw_below_drewN | apply below_drew1 | refine below_set ?_ GE117.out) | exact HB.out))) : w.heap.size ≤ gb118)); have n5_ := Aside0.mk ((by rw [hg]; exact Nat.ne_of_lt (blk_lt (g := gb117) (o := .cells #[.int .i64 a0_0, .int .i64 a0_1, .int .u64 a0_2, .slice A0_3 l0_3.length c0_3, .slice A0_4 l0_4.length c0_4] 31 (0, 0)) (by (with_reducible repeat (first | refine blk_drewN ?_ _ | refine blk_drew ?_ | refine blk_alloc ?_ _)); exact BK117.out)) : gb117 ≠ gb118)); have n6_ := Aside0.mk ((by rw [hg]; exact Nat.ne_of_gt (blk_lt (g := gb117) (o := .cells #[.int .i64 a0_0, .int .i64 a0_1, .int .u64 a0_2, .slice A0_3 l0_3.length c0_3, .slice A0_4 l0_4.length c0_4] 31 (0, 0)) (by (with_reducible repeat (first | refine blk_drewN ?_ _ | refine blk_drew ?_ | refine blk_alloc ?_ _)); exact BK117.out)) : gb118 ≠ gb117)); clear BK117; clear HB; have BK117 := n0_; have HB := n1_; have BK118 := n2_; have GW118 := n3_; have GE118 := n4_; have NB117_118 := n5_; have NB118_117 := n6_; clear n0_ n1_ n2_ n3_ n4_ n5_ n6_; clear hb hbox hg)))
  (try simp only [Act.put, List.setIfInBounds_toArray, List.set_cons_zero, List.set_cons_succ])
  go_cut [43] (fun v43 wc => ∃ (kq : Nat) (x43_2 : Bool), v43 = .bool x43_2 ∧ Aside0 (morainelaw15_same.j0 kq x43_2 a0_0 a0_1 a0_2 l0_3 l0_4 a1_0 a1_1 a1_2 l1_3 l1_4 = some r) ∧ Aside0 (kq ≤ k) ∧ Aside0 (wc.heap[gb117]? = some (.cells #[.int .i64 a0_0, .int .i64 a0_1, .int .u64 a0_2, (.slice A0_3 l0_3.length c0_3), (.slice A0_4 l0_4.length c0_4)] 31 (0, 0))) ∧ Aside0 (wc.heap[gb118]? = some (.cells #[.int .i64 a1_0, .int .i64 a1_1, .int .u64 a1_2, (.slice A1_3 l1_3.length c1_3), (.slice A1_4 l1_4.length c1_4)] 31 (0, 0))) ∧ Aside0 (Below w.heap.size w wc))
  case first =>
    have H := HC3.out
    clear HC3
    by_cases c6 : a0_0 = a1_0
    · rw [if_pos c6] at H
      have c6b0 : (a0_0 == a1_0) = true := beq_iff_eq.mpr c6
      have c6b1 : (a0_0 != a1_0) = false := bne_eq_false_iff_eq.mpr c6
      clear c6
      (first | rw [c6b0] | (simp only [i64_w, i32_w]; rw [c6b0]) | skip)
      by_cases c7 : a0_1 = a1_1
      · rw [if_pos c7] at H
        have c7b0 : (a0_1 == a1_1) = true := beq_iff_eq.mpr c7
        have c7b1 : (a0_1 != a1_1) = false := bne_eq_false_iff_eq.mpr c7
        clear c7
        by_cases c8 : a0_2 = a1_2
        · rw [if_pos c8] at H
          have c8b0 : (a0_2 == a1_2) = true := beq_iff_eq.mpr c8
          have c8b1 : (a0_2 != a1_2) = false := bne_eq_false_iff_eq.mpr c8
          clear c8
          by_cases c9 : (l0_3.length : Int) = (l1_3.length : Int)
          · rw [if_pos c9] at H
            have c9b0 : ((l0_3.length : Int) == (l1_3.length : Int)) = true := beq_iff_eq.mpr c9
            have c9b1 : ((l0_3.length : Int) != (l1_3.length : Int)) = false := bne_eq_false_iff_eq.mpr c9
            have c9b2 : (l0_3.length == l1_3.length) = true := by first | simpa using c9 | (simp at c9 ⊢; omega)
            clear c9
            have H' := Aside0.mk H
            clear H
            have hnb10 := NB117_118.out
            have hnc10 := NB118_117.out
            have hcz11_0 : w5.cell? ⟨gb117, 0, none⟩ = some (.int .i64 a0_0) := (blk_cell BK117.out 0).trans rfl
            have hcz11_1 : w5.cell? ⟨gb117, 1, none⟩ = some (.int .i64 a0_1) := (blk_cell BK117.out 1).trans rfl
            have hcz11_2 : w5.cell? ⟨gb117, 2, none⟩ = some (.int .u64 a0_2) := (blk_cell BK117.out 2).trans rfl
            have hcz11_3 : w5.cell? ⟨gb117, 3, none⟩ = some (.slice A0_3 l0_3.length c0_3) := (blk_cell BK117.out 3).trans rfl
            have hcz11_4 : w5.cell? ⟨gb117, 4, none⟩ = some (.slice A0_4 l0_4.length c0_4) := (blk_cell BK117.out 4).trans rfl
            have hfz11_0 := blk_frozen BK117.out 0
            have hfz11_1 := blk_frozen BK117.out 1
            have hfz11_2 := blk_frozen BK117.out 2
            have hfz11_3 := blk_frozen BK117.out 3
            have hfz11_4 := blk_frozen BK117.out 4
            have hcz12_0 : w5.cell? ⟨gb118, 0, none⟩ = some (.int .i64 a1_0) := (blk_cell BK118.out 0).trans rfl
            have hcz12_1 : w5.cell? ⟨gb118, 1, none⟩ = some (.int .i64 a1_1) := (blk_cell BK118.out 1).trans rfl
            have hcz12_2 : w5.cell? ⟨gb118, 2, none⟩ = some (.int .u64 a1_2) := (blk_cell BK118.out 2).trans rfl
            have hcz12_3 : w5.cell? ⟨gb118, 3, none⟩ = some (.slice A1_3 l1_3.length c1_3) := (blk_cell BK118.out 3).trans rfl
            have hcz12_4 : w5.cell? ⟨gb118, 4, none⟩ = some (.slice A1_4 l1_4.length c1_4) := (blk_cell BK118.out 4).trans rfl
            have hfz12_0 := blk_frozen BK118.out 0
            have hfz12_1 := blk_frozen BK118.out 1
            have hfz12_2 := blk_frozen BK118.out 2
            have hfz12_3 := blk_frozen BK118.out 3
            have hfz12_4 := blk_frozen BK118.out 4
            go_wp2
            repeat (go_quiet (fail); try go_wp2)
            go_meet
            case rel => exact ⟨_, (((l0_4.length : Int) != (l1_4.length : Int))), (by first | rfl | (simp; done) | (simp [*]; done)), H', ⟨by first | omega | exact Nat.le_refl _⟩, ⟨by (with_reducible repeat (first | refine blk_drewN ?_ _ | refine blk_drew ?_ | refine blk_alloc ?_ _)); exact BK117.out⟩, ⟨by (with_reducible repeat (first | refine blk_drewN ?_ _ | refine blk_drew ?_ | refine blk_alloc ?_ _)); exact BK118.out⟩, ⟨by repeat (first | (with_reducible first | exact HB.out | apply below_alloc | apply pw_below_drewN | apply below_drew1 | refine below_set ?_ GE117.out | refine below_set ?_ GE118.out) | exact HB.out)⟩⟩
          · rw [if_neg c9] at H
            have c9b0 : ((l0_3.length : Int) == (l1_3.length : Int)) = false := beq_eq_false_iff_ne.mpr c9
            have c9b1 : ((l0_3.length : Int) != (l1_3.length : Int)) = true := bne_iff_ne.mpr c9
            have c9b2 : (l0_3.length == l1_3.length) = false := by first | simpa using c9 | (simp at c9 ⊢; omega)
            have H' := Aside0.mk H
            clear H
            have hnb13 := NB117_118.out
            have hnc13 := NB118_117.out
            have hcz14_0 : w5.cell? ⟨gb117, 0, none⟩ = some (.int .i64 a0_0) := (blk_cell BK117.out 0).trans rfl
            have hcz14_1 : w5.cell? ⟨gb117, 1, none⟩ = some (.int .i64 a0_1) := (blk_cell BK117.out 1).trans rfl
            have hcz14_2 : w5.cell? ⟨gb117, 2, none⟩ = some (.int .u64 a0_2) := (blk_cell BK117.out 2).trans rfl
            have hcz14_3 : w5.cell? ⟨gb117, 3, none⟩ = some (.slice A0_3 l0_3.length c0_3) := (blk_cell BK117.out 3).trans rfl
            have hcz14_4 : w5.cell? ⟨gb117, 4, none⟩ = some (.slice A0_4 l0_4.length c0_4) := (blk_cell BK117.out 4).trans rfl
            have hfz14_0 := blk_frozen BK117.out 0
            have hfz14_1 := blk_frozen BK117.out 1
            have hfz14_2 := blk_frozen BK117.out 2
            have hfz14_3 := blk_frozen BK117.out 3
            have hfz14_4 := blk_frozen BK117.out 4
            have hcz15_0 : w5.cell? ⟨gb118, 0, none⟩ = some (.int .i64 a1_0) := (blk_cell BK118.out 0).trans rfl
            have hcz15_1 : w5.cell? ⟨gb118, 1, none⟩ = some (.int .i64 a1_1) := (blk_cell BK118.out 1).trans rfl
            have hcz15_2 : w5.cell? ⟨gb118, 2, none⟩ = some (.int .u64 a1_2) := (blk_cell BK118.out 2).trans rfl
            have hcz15_3 : w5.cell? ⟨gb118, 3, none⟩ = some (.slice A1_3 l1_3.length c1_3) := (blk_cell BK118.out 3).trans rfl
            have hcz15_4 : w5.cell? ⟨gb118, 4, none⟩ = some (.slice A1_4 l1_4.length c1_4) := (blk_cell BK118.out 4).trans rfl
            have hfz15_0 := blk_frozen BK118.out 0
            have hfz15_1 := blk_frozen BK118.out 1
            have hfz15_2 := blk_frozen BK118.out 2
            have hfz15_3 := blk_frozen BK118.out 3
            have hfz15_4 := blk_frozen BK118.out 4
            go_wp2
            repeat (go_quiet (fail); try go_wp2)
            go_meet
            case rel => exact ⟨_, (true), (by first | rfl | (simp; done) | (simp [*]; done)), H', ⟨by first | omega | exact Nat.le_refl _⟩, ⟨by (with_reducible repeat (first | refine blk_drewN ?_ _ | refine blk_drew ?_ | refine blk_alloc ?_ _)); exact BK117.out⟩, ⟨by (with_reducible repeat (first | refine blk_drewN ?_ _ | refine blk_drew ?_ | refine blk_alloc ?_ _)); exact BK118.out⟩, ⟨by repeat (first | (with_reducible first | exact HB.out | apply below_alloc | apply pw_below_drewN | apply below_drew1 | refine below_set ?_ GE117.out | refine below_set ?_ GE118.out) | exact HB.out)⟩⟩
        · rw [if_neg c8] at H
          have c8b0 : (a0_2 == a1_2) = false := beq_eq_false_iff_ne.mpr c8
          have c8b1 : (a0_2 != a1_2) = true := bne_iff_ne.mpr c8
          have H' := Aside0.mk H
          clear H
          have hnb16 := NB117_118.out
          have hnc16 := NB118_117.out
          have hcz17_0 : w5.cell? ⟨gb117, 0, none⟩ = some (.int .i64 a0_0) := (blk_cell BK117.out 0).trans rfl
          have hcz17_1 : w5.cell? ⟨gb117, 1, none⟩ = some (.int .i64 a0_1) := (blk_cell BK117.out 1).trans rfl
          have hcz17_2 : w5.cell? ⟨gb117, 2, none⟩ = some (.int .u64 a0_2) := (blk_cell BK117.out 2).trans rfl
          have hcz17_3 : w5.cell? ⟨gb117, 3, none⟩ = some (.slice A0_3 l0_3.length c0_3) := (blk_cell BK117.out 3).trans rfl
          have hcz17_4 : w5.cell? ⟨gb117, 4, none⟩ = some (.slice A0_4 l0_4.length c0_4) := (blk_cell BK117.out 4).trans rfl
          have hfz17_0 := blk_frozen BK117.out 0
          have hfz17_1 := blk_frozen BK117.out 1
          have hfz17_2 := blk_frozen BK117.out 2
          have hfz17_3 := blk_frozen BK117.out 3
          have hfz17_4 := blk_frozen BK117.out 4
          have hcz18_0 : w5.cell? ⟨gb118, 0, none⟩ = some (.int .i64 a1_0) := (blk_cell BK118.out 0).trans rfl
          have hcz18_1 : w5.cell? ⟨gb118, 1, none⟩ = some (.int .i64 a1_1) := (blk_cell BK118.out 1).trans rfl
          have hcz18_2 : w5.cell? ⟨gb118, 2, none⟩ = some (.int .u64 a1_2) := (blk_cell BK118.out 2).trans rfl
          have hcz18_3 : w5.cell? ⟨gb118, 3, none⟩ = some (.slice A1_3 l1_3.length c1_3) := (blk_cell BK118.out 3).trans rfl
          have hcz18_4 : w5.cell? ⟨gb118, 4, none⟩ = some (.slice A1_4 l1_4.length c1_4) := (blk_cell BK118.out 4).trans rfl
          have hfz18_0 := blk_frozen BK118.out 0
          have hfz18_1 := blk_frozen BK118.out 1
          have hfz18_2 := blk_frozen BK118.out 2
          have hfz18_3 := blk_frozen BK118.out 3
          have hfz18_4 := blk_frozen BK118.out 4
          go_wp2
          repeat (go_quiet (fail); try go_wp2)
          go_meet
          case rel => exact ⟨_, (true), (by first | rfl | (simp; done) | (simp [*]; done)), H', ⟨by first | omega | exact Nat.le_refl _⟩, ⟨by (with_reducible repeat (first | refine blk_drewN ?_ _ | refine blk_drew ?_ | refine blk_alloc ?_ _)); exact BK117.out⟩, ⟨by (with_reducible repeat (first | refine blk_drewN ?_ _ | refine blk_drew ?_ | refine blk_alloc ?_ _)); exact BK118.out⟩, ⟨by repeat (first | (with_reducible first | exact HB.out | apply below_alloc | apply pw_below_drewN | apply below_drew1 | refine below_set ?_ GE117.out | refine below_set ?_ GE118.out) | exact HB.out)⟩⟩
      · rw [if_neg c7] at H
        have c7b0 : (a0_1 == a1_1) = false := beq_eq_false_iff_ne.mpr c7
        have c7b1 : (a0_1 != a1_1) = true := bne_iff_ne.mpr c7
        have H' := Aside0.mk H
        clear H
        have hnb19 := NB117_118.out
        have hnc19 := NB118_117.out
        have hcz20_0 : w5.cell? ⟨gb117, 0, none⟩ = some (.int .i64 a0_0) := (blk_cell BK117.out 0).trans rfl
        have hcz20_1 : w5.cell? ⟨gb117, 1, none⟩ = some (.int .i64 a0_1) := (blk_cell BK117.out 1).trans rfl
        have hcz20_2 : w5.cell? ⟨gb117, 2, none⟩ = some (.int .u64 a0_2) := (blk_cell BK117.out 2).trans rfl
        have hcz20_3 : w5.cell? ⟨gb117, 3, none⟩ = some (.slice A0_3 l0_3.length c0_3) := (blk_cell BK117.out 3).trans rfl
        have hcz20_4 : w5.cell? ⟨gb117, 4, none⟩ = some (.slice A0_4 l0_4.length c0_4) := (blk_cell BK117.out 4).trans rfl
        have hfz20_0 := blk_frozen BK117.out 0
        have hfz20_1 := blk_frozen BK117.out 1
        have hfz20_2 := blk_frozen BK117.out 2
        have hfz20_3 := blk_frozen BK117.out 3
        have hfz20_4 := blk_frozen BK117.out 4
        have hcz21_0 : w5.cell? ⟨gb118, 0, none⟩ = some (.int .i64 a1_0) := (blk_cell BK118.out 0).trans rfl
        have hcz21_1 : w5.cell? ⟨gb118, 1, none⟩ = some (.int .i64 a1_1) := (blk_cell BK118.out 1).trans rfl
        have hcz21_2 : w5.cell? ⟨gb118, 2, none⟩ = some (.int .u64 a1_2) := (blk_cell BK118.out 2).trans rfl
        have hcz21_3 : w5.cell? ⟨gb118, 3, none⟩ = some (.slice A1_3 l1_3.length c1_3) := (blk_cell BK118.out 3).trans rfl
        have hcz21_4 : w5.cell? ⟨gb118, 4, none⟩ = some (.slice A1_4 l1_4.length c1_4) := (blk_cell BK118.out 4).trans rfl
        have hfz21_0 := blk_frozen BK118.out 0
        have hfz21_1 := blk_frozen BK118.out 1
        have hfz21_2 := blk_frozen BK118.out 2
        have hfz21_3 := blk_frozen BK118.out 3
        have hfz21_4 := blk_frozen BK118.out 4
        go_wp2
        repeat (go_quiet (fail); try go_wp2)
        go_meet
        case rel => exact ⟨_, (true), (by first | rfl | (simp; done) | (simp [*]; done)), H', ⟨by first | omega | exact Nat.le_refl _⟩, ⟨by (with_reducible repeat (first | refine blk_drewN ?_ _ | refine blk_drew ?_ | refine blk_alloc ?_ _)); exact BK117.out⟩, ⟨by (with_reducible repeat (first | refine blk_drewN ?_ _ | refine blk_drew ?_ | refine blk_alloc ?_ _)); exact BK118.out⟩, ⟨by repeat (first | (with_reducible first | exact HB.out | apply below_alloc | apply pw_below_drewN | apply below_drew1 | refine below_set ?_ GE117.out | refine below_set ?_ GE118.out) | exact HB.out)⟩⟩
    · rw [if_neg c6] at H
      have c6b0 : (a0_0 == a1_0) = false := beq_eq_false_iff_ne.mpr c6
      have c6b1 : (a0_0 != a1_0) = true := bne_iff_ne.mpr c6
      (first | rw [c6b0] | (simp only [i64_w, i32_w]; rw [c6b0]) | skip)
      have H' := Aside0.mk H
      clear H
      have hnb22 := NB117_118.out
      have hnc22 := NB118_117.out
      have hcz23_0 : w5.cell? ⟨gb117, 0, none⟩ = some (.int .i64 a0_0) := (blk_cell BK117.out 0).trans rfl
      have hcz23_1 : w5.cell? ⟨gb117, 1, none⟩ = some (.int .i64 a0_1) := (blk_cell BK117.out 1).trans rfl
      have hcz23_2 : w5.cell? ⟨gb117, 2, none⟩ = some (.int .u64 a0_2) := (blk_cell BK117.out 2).trans rfl
      have hcz23_3 : w5.cell? ⟨gb117, 3, none⟩ = some (.slice A0_3 l0_3.length c0_3) := (blk_cell BK117.out 3).trans rfl
      have hcz23_4 : w5.cell? ⟨gb117, 4, none⟩ = some (.slice A0_4 l0_4.length c0_4) := (blk_cell BK117.out 4).trans rfl
      have hfz23_0 := blk_frozen BK117.out 0
      have hfz23_1 := blk_frozen BK117.out 1
      have hfz23_2 := blk_frozen BK117.out 2
      have hfz23_3 := blk_frozen BK117.out 3
      have hfz23_4 := blk_frozen BK117.out 4
      have hcz24_0 : w5.cell? ⟨gb118, 0, none⟩ = some (.int .i64 a1_0) := (blk_cell BK118.out 0).trans rfl
      have hcz24_1 : w5.cell? ⟨gb118, 1, none⟩ = some (.int .i64 a1_1) := (blk_cell BK118.out 1).trans rfl
      have hcz24_2 : w5.cell? ⟨gb118, 2, none⟩ = some (.int .u64 a1_2) := (blk_cell BK118.out 2).trans rfl
      have hcz24_3 : w5.cell? ⟨gb118, 3, none⟩ = some (.slice A1_3 l1_3.length c1_3) := (blk_cell BK118.out 3).trans rfl
      have hcz24_4 : w5.cell? ⟨gb118, 4, none⟩ = some (.slice A1_4 l1_4.length c1_4) := (blk_cell BK118.out 4).trans rfl
      have hfz24_0 := blk_frozen BK118.out 0
      have hfz24_1 := blk_frozen BK118.out 1
      have hfz24_2 := blk_frozen BK118.out 2
      have hfz24_3 := blk_frozen BK118.out 3
      have hfz24_4 := blk_frozen BK118.out 4
      go_wp2
      repeat (go_quiet (fail); try go_wp2)
      go_meet
      case rel => exact ⟨_, (true), (by first | rfl | (simp; done) | (simp [*]; done)), H', ⟨by first | omega | exact Nat.le_refl _⟩, ⟨by (with_reducible repeat (first | refine blk_drewN ?_ _ | refine blk_drew ?_ | refine blk_alloc ?_ _)); exact BK117.out⟩, ⟨by (with_reducible repeat (first | refine blk_drewN ?_ _ | refine blk_drew ?_ | refine blk_alloc ?_ _)); exact BK118.out⟩, ⟨by repeat (first | (with_reducible first | exact HB.out | apply below_alloc | apply pw_below_drewN | apply below_drew1 | refine below_set ?_ GE117.out | refine below_set ?_ GE118.out) | exact HB.out)⟩⟩
  case rest =>
    clear HC3
    try clear c1
    try clear c2
    try clear p2
    try clear c6
    try clear c6b0
    try clear c6b1
    try clear c7
    try clear c7b0
    try clear c7b1
    try clear c8
    try clear c8b0
    try clear c8b1
    try clear c9
    try clear c9b0
    try clear c9b1
    try clear c9b2
    try clear c10
    try clear c13
    try clear c16
    try clear c19
    try clear c22
    try clear hcz11_0
    try clear hcz11_1
    try clear hcz11_2
    try clear hcz11_3
    try clear hcz11_4
    try clear hcz12_0
    try clear hcz12_1
    try clear hcz12_2
    try clear hcz12_3
    try clear hcz12_4
    try clear hcz14_0
    try clear hcz14_1
    try clear hcz14_2
    try clear hcz14_3
    try clear hcz14_4
    try clear hcz15_0
    try clear hcz15_1
    try clear hcz15_2
    try clear hcz15_3
    try clear hcz15_4
    try clear hcz17_0
    try clear hcz17_1
    try clear hcz17_2
    try clear hcz17_3
    try clear hcz17_4
    try clear hcz18_0
    try clear hcz18_1
    try clear hcz18_2
    try clear hcz18_3
    try clear hcz18_4
    try clear hcz20_0
    try clear hcz20_1
    try clear hcz20_2
    try clear hcz20_3
    try clear hcz20_4
    try clear hcz21_0
    try clear hcz21_1
    try clear hcz21_2
    try clear hcz21_3
    try clear hcz21_4
    try clear hcz23_0
    try clear hcz23_1
    try clear hcz23_2
    try clear hcz23_3
    try clear hcz23_4
    try clear hcz24_0
    try clear hcz24_1
    try clear hcz24_2
    try clear hcz24_3
    try clear hcz24_4
    try clear hfz11_0
    try clear hfz11_1
    try clear hfz11_2
    try clear hfz11_3
    try clear hfz11_4
    try clear hfz12_0
    try clear hfz12_1
    try clear hfz12_2
    try clear hfz12_3
    try clear hfz12_4
    try clear hfz14_0
    try clear hfz14_1
    try clear hfz14_2
    try clear hfz14_3
    try clear hfz14_4
    try clear hfz15_0
    try clear hfz15_1
    try clear hfz15_2
    try clear hfz15_3
    try clear hfz15_4
    try clear hfz17_0
    try clear hfz17_1
    try clear hfz17_2
    try clear hfz17_3
    try clear hfz17_4
    try clear hfz18_0
    try clear hfz18_1
    try clear hfz18_2
    try clear hfz18_3
    try clear hfz18_4
    try clear hfz20_0
    try clear hfz20_1
    try clear hfz20_2
    try clear hfz20_3
    try clear hfz20_4
    try clear hfz21_0
    try clear hfz21_1
    try clear hfz21_2
    try clear hfz21_3
    try clear hfz21_4
    try clear hfz23_0
    try clear hfz23_1
    try clear hfz23_2
    try clear hfz23_3
    try clear hfz23_4
    try clear hfz24_0
    try clear hfz24_1
    try clear hfz24_2
    try clear hfz24_3
    try clear hfz24_4
    obtain ⟨kq, x43_2, rfl, HA, HJ2, BK117, BK118, HB⟩ := hcut
    cases kq with
    | zero => exact absurd HA.out (by simp [morainelaw15_same.j0])
    | succ kj2 =>
      have H := HA.out
      clear HA
      simp only [morainelaw15_same.j0] at H
      by_cases c25 : x43_2 = true
      · subst c25
        have H1 : (some false) = some r := by rw [if_pos rfl] at H; exact H
        clear H
        have H := H1
        clear H1
        obtain rfl := Option.some.inj H
        go_wp2
        repeat (go_quiet (fail); try go_wp2)
        go_ret
        exact ⟨by first | rfl | (simp [errW_none, errW_some] <;> rfl) | (simp [*, errW_none, errW_some] <;> rfl), by repeat (first | (with_reducible first | exact HB.out | apply below_alloc | apply pw_below_drewN | apply below_drew1 | refine below_set ?_ GE117.out | refine below_set ?_ GE118.out) | exact HB.out)⟩
      · replace c25 := Bool.eq_false_iff.mpr c25
        subst c25
        have H1 : (morainelaw15_same.l0 kj2 0 a0_0 a0_1 a0_2 l0_3 l0_4 a1_0 a1_1 a1_2 l1_3 l1_4) = some r := by rw [if_neg (show ¬ (false = true) by decide)] at H; exact H
        clear H
        have H := H1
        clear H1
        have H' := Aside0.mk H
        clear H
        go_wp2
        repeat (go_quiet (fail); try go_wp2)
        go_loopg [5] kj2 (fun kq v5 w' => ∃ (x5_2 : Int), v5 = .int .i64 x5_2 ∧ Aside0 (morainelaw15_same.l0 kq x5_2 a0_0 a0_1 a0_2 l0_3 l0_4 a1_0 a1_1 a1_2 l1_3 l1_4 = some r) ∧ Aside0 (kq ≤ kj2) ∧ Aside0 (w'.heap[gb117]? = some (.cells #[.int .i64 a0_0, .int .i64 a0_1, .int .u64 a0_2, (.slice A0_3 l0_3.length c0_3), (.slice A0_4 l0_4.length c0_4)] 31 (0, 0))) ∧ Aside0 (w'.heap[gb118]? = some (.cells #[.int .i64 a1_0, .int .i64 a1_1, .int .u64 a1_2, (.slice A1_3 l1_3.length c1_3), (.slice A1_4 l1_4.length c1_4)] 31 (0, 0))) ∧ Aside0 (Below w.heap.size w w'))
        case atStart => exact ⟨(0), (by first | rfl | (simp; done) | (simp [*]; done)), H', ⟨Nat.le_refl _⟩, ⟨by (with_reducible repeat (first | refine blk_drewN ?_ _ | refine blk_drew ?_ | refine blk_alloc ?_ _)); exact BK117.out⟩, ⟨by (with_reducible repeat (first | refine blk_drewN ?_ _ | refine blk_drew ?_ | refine blk_alloc ?_ _)); exact BK118.out⟩, ⟨by repeat (first | (with_reducible first | exact HB.out | apply below_alloc | apply pw_below_drewN | apply below_drew1 | refine below_set ?_ GE117.out | refine below_set ?_ GE118.out) | exact HB.out)⟩⟩
        case round =>
          clear H'
          try clear c1
          try clear c2
          try clear p2
          try clear c6
          try clear c6b0
          try clear c6b1
          try clear c7
          try clear c7b0
          try clear c7b1
          try clear c8
          try clear c8b0
          try clear c8b1
          try clear c9
          try clear c9b0
          try clear c9b1
          try clear c9b2
          try clear c10
          try clear c13
          try clear c16
          try clear c19
          try clear c22
          try clear c25
          try clear hcz11_0
          try clear hcz11_1
          try clear hcz11_2
          try clear hcz11_3
          try clear hcz11_4
          try clear hcz12_0
          try clear hcz12_1
          try clear hcz12_2
          try clear hcz12_3
          try clear hcz12_4
          try clear hcz14_0
          try clear hcz14_1
          try clear hcz14_2
          try clear hcz14_3
          try clear hcz14_4
          try clear hcz15_0
          try clear hcz15_1
          try clear hcz15_2
          try clear hcz15_3
          try clear hcz15_4
          try clear hcz17_0
          try clear hcz17_1
          try clear hcz17_2
          try clear hcz17_3
          try clear hcz17_4
          try clear hcz18_0
          try clear hcz18_1
          try clear hcz18_2
          try clear hcz18_3
          try clear hcz18_4
          try clear hcz20_0
          try clear hcz20_1
          try clear hcz20_2
          try clear hcz20_3
          try clear hcz20_4
          try clear hcz21_0
          try clear hcz21_1
          try clear hcz21_2
          try clear hcz21_3
          try clear hcz21_4
          try clear hcz23_0
          try clear hcz23_1
          try clear hcz23_2
          try clear hcz23_3
          try clear hcz23_4
          try clear hcz24_0
          try clear hcz24_1
          try clear hcz24_2
          try clear hcz24_3
          try clear hcz24_4
          try clear hfz11_0
          try clear hfz11_1
          try clear hfz11_2
          try clear hfz11_3
          try clear hfz11_4
          try clear hfz12_0
          try clear hfz12_1
          try clear hfz12_2
          try clear hfz12_3
          try clear hfz12_4
          try clear hfz14_0
          try clear hfz14_1
          try clear hfz14_2
          try clear hfz14_3
          try clear hfz14_4
          try clear hfz15_0
          try clear hfz15_1
          try clear hfz15_2
          try clear hfz15_3
          try clear hfz15_4
          try clear hfz17_0
          try clear hfz17_1
          try clear hfz17_2
          try clear hfz17_3
          try clear hfz17_4
          try clear hfz18_0
          try clear hfz18_1
          try clear hfz18_2
          try clear hfz18_3
          try clear hfz18_4
          try clear hfz20_0
          try clear hfz20_1
          try clear hfz20_2
          try clear hfz20_3
          try clear hfz20_4
          try clear hfz21_0
          try clear hfz21_1
          try clear hfz21_2
          try clear hfz21_3
          try clear hfz21_4
          try clear hfz23_0
          try clear hfz23_1
          try clear hfz23_2
          try clear hfz23_3
          try clear hfz23_4
          try clear hfz24_0
          try clear hfz24_1
          try clear hfz24_2
          try clear hfz24_3
          try clear hfz24_4
          try clear p2
          obtain ⟨x5_2, rfl, HA, HK2, BK117, BK118, HB⟩ := hrel
          cases gk with
          | zero => exact absurd HA.out (by simp [morainelaw15_same.l0])
          | succ k2 =>
            have H := HA.out
            clear HA
            simp only [morainelaw15_same.l0] at H
            by_cases c26 : x5_2 < (l0_3.length : Int)
            · rw [if_pos c26] at H
              have c26b0 : decide (x5_2 < (l0_3.length : Int)) = true := decide_eq_true c26
              clear c26
              by_cases c27 : 0 ≤ x5_2
              · rw [if_pos c27] at H
                have c27b0 : decide (0 ≤ x5_2) = true := decide_eq_true c27
                clear c27
                by_cases c28 : x5_2 < (l1_3.length : Int)
                · rw [if_pos c28] at H
                  have c28b0 : decide (x5_2 < (l1_3.length : Int)) = true := decide_eq_true c28
                  clear c28
                  by_cases c29 : (!(((rd_T45 l0_3 x5_2).f0) == ((rd_T45 l1_3 x5_2).f0)) || (!(((rd_T45 l0_3 x5_2).f1) == ((rd_T45 l1_3 x5_2).f1)))) = true
                  · rw [if_pos c29] at H
                    have c29b0 : (!(((rd_T45 l0_3 x5_2).f0) == ((rd_T45 l1_3 x5_2).f0)) || (!(((rd_T45 l0_3 x5_2).f1) == ((rd_T45 l1_3 x5_2).f1)))) = true := c29
                    clear c29
                    obtain rfl := Option.some.inj H
                    have hnb30 := NB117_118.out
                    have hnc30 := NB118_117.out
                    have hcz31_0 : wr.cell? ⟨gb117, 0, none⟩ = some (.int .i64 a0_0) := (blk_cell BK117.out 0).trans rfl
                    have hcz31_1 : wr.cell? ⟨gb117, 1, none⟩ = some (.int .i64 a0_1) := (blk_cell BK117.out 1).trans rfl
                    have hcz31_2 : wr.cell? ⟨gb117, 2, none⟩ = some (.int .u64 a0_2) := (blk_cell BK117.out 2).trans rfl
                    have hcz31_3 : wr.cell? ⟨gb117, 3, none⟩ = some (.slice A0_3 l0_3.length c0_3) := (blk_cell BK117.out 3).trans rfl
                    have hcz31_4 : wr.cell? ⟨gb117, 4, none⟩ = some (.slice A0_4 l0_4.length c0_4) := (blk_cell BK117.out 4).trans rfl
                    have hfz31_0 := blk_frozen BK117.out 0
                    have hfz31_1 := blk_frozen BK117.out 1
                    have hfz31_2 := blk_frozen BK117.out 2
                    have hfz31_3 := blk_frozen BK117.out 3
                    have hfz31_4 := blk_frozen BK117.out 4
                    have p119 : 0 ≤ (x5_2 : Int) := of_decide_eq_true (by first | (with_reducible assumption) | assumption)
                    have q119 : x5_2 < (l0_3.length : Int) := of_decide_eq_true (by first | (with_reducible assumption) | assumption)
                    obtain ⟨ad119, e119, hx119_0, hx119_1⟩ := at_T45 HR0_3.out x5_2 p119 q119
                    cases e119
                    replace hx119_0 := (HB.out.cell (World.block_lt_of_cell? w _ hx119_0)).trans hx119_0
                    replace hx119_1 := (HB.out.cell (World.block_lt_of_cell? w _ hx119_1)).trans hx119_1
                    replace p119 := eq_true p119
                    replace q119 := eq_true q119
                    have hcz32_0 : wr.cell? ⟨gb118, 0, none⟩ = some (.int .i64 a1_0) := (blk_cell BK118.out 0).trans rfl
                    have hcz32_1 : wr.cell? ⟨gb118, 1, none⟩ = some (.int .i64 a1_1) := (blk_cell BK118.out 1).trans rfl
                    have hcz32_2 : wr.cell? ⟨gb118, 2, none⟩ = some (.int .u64 a1_2) := (blk_cell BK118.out 2).trans rfl
                    have hcz32_3 : wr.cell? ⟨gb118, 3, none⟩ = some (.slice A1_3 l1_3.length c1_3) := (blk_cell BK118.out 3).trans rfl
                    have hcz32_4 : wr.cell? ⟨gb118, 4, none⟩ = some (.slice A1_4 l1_4.length c1_4) := (blk_cell BK118.out 4).trans rfl
                    have hfz32_0 := blk_frozen BK118.out 0
                    have hfz32_1 := blk_frozen BK118.out 1
                    have hfz32_2 := blk_frozen BK118.out 2
                    have hfz32_3 := blk_frozen BK118.out 3
                    have hfz32_4 := blk_frozen BK118.out 4
                    have p120 : 0 ≤ (x5_2 : Int) := of_decide_eq_true (by first | (with_reducible assumption) | assumption)
                    have q120 : x5_2 < (l1_3.length : Int) := of_decide_eq_true (by first | (with_reducible assumption) | assumption)
                    obtain ⟨ad120, e120, hx120_0, hx120_1⟩ := at_T45 HR1_3.out x5_2 p120 q120
                    cases e120
                    replace hx120_0 := (HB.out.cell (World.block_lt_of_cell? w _ hx120_0)).trans hx120_0
                    replace hx120_1 := (HB.out.cell (World.block_lt_of_cell? w _ hx120_1)).trans hx120_1
                    replace p120 := eq_true p120
                    replace q120 := eq_true q120
                    go_wp2
                    repeat (go_quiet (fail); try go_wp2)
                    go_ret
                    exact ⟨by first | rfl | (simp [errW_none, errW_some] <;> rfl) | (simp [*, errW_none, errW_some] <;> rfl), by repeat (first | (with_reducible first | exact HB.out | apply below_alloc | apply pw_below_drewN | apply below_drew1 | refine below_set ?_ GE117.out | refine below_set ?_ GE118.out) | exact HB.out)⟩
                  · rw [if_neg c29] at H
                    have c29b0 : (!(((rd_T45 l0_3 x5_2).f0) == ((rd_T45 l1_3 x5_2).f0)) || (!(((rd_T45 l0_3 x5_2).f1) == ((rd_T45 l1_3 x5_2).f1)))) = false := by simpa using c29
                    clear c29
                    have H' := Aside0.mk H
                    clear H
                    have hnb33 := NB117_118.out
                    have hnc33 := NB118_117.out
                    have hcz34_0 : wr.cell? ⟨gb117, 0, none⟩ = some (.int .i64 a0_0) := (blk_cell BK117.out 0).trans rfl
                    have hcz34_1 : wr.cell? ⟨gb117, 1, none⟩ = some (.int .i64 a0_1) := (blk_cell BK117.out 1).trans rfl
                    have hcz34_2 : wr.cell? ⟨gb117, 2, none⟩ = some (.int .u64 a0_2) := (blk_cell BK117.out 2).trans rfl
                    have hcz34_3 : wr.cell? ⟨gb117, 3, none⟩ = some (.slice A0_3 l0_3.length c0_3) := (blk_cell BK117.out 3).trans rfl
                    have hcz34_4 : wr.cell? ⟨gb117, 4, none⟩ = some (.slice A0_4 l0_4.length c0_4) := (blk_cell BK117.out 4).trans rfl
                    have hfz34_0 := blk_frozen BK117.out 0
                    have hfz34_1 := blk_frozen BK117.out 1
                    have hfz34_2 := blk_frozen BK117.out 2
                    have hfz34_3 := blk_frozen BK117.out 3
                    have hfz34_4 := blk_frozen BK117.out 4
                    have p119 : 0 ≤ (x5_2 : Int) := of_decide_eq_true (by first | (with_reducible assumption) | assumption)
                    have q119 : x5_2 < (l0_3.length : Int) := of_decide_eq_true (by first | (with_reducible assumption) | assumption)
                    obtain ⟨ad119, e119, hx119_0, hx119_1⟩ := at_T45 HR0_3.out x5_2 p119 q119
                    cases e119
                    replace hx119_0 := (HB.out.cell (World.block_lt_of_cell? w _ hx119_0)).trans hx119_0
                    replace hx119_1 := (HB.out.cell (World.block_lt_of_cell? w _ hx119_1)).trans hx119_1
                    replace p119 := eq_true p119
                    replace q119 := eq_true q119
                    have hcz35_0 : wr.cell? ⟨gb118, 0, none⟩ = some (.int .i64 a1_0) := (blk_cell BK118.out 0).trans rfl
                    have hcz35_1 : wr.cell? ⟨gb118, 1, none⟩ = some (.int .i64 a1_1) := (blk_cell BK118.out 1).trans rfl
                    have hcz35_2 : wr.cell? ⟨gb118, 2, none⟩ = some (.int .u64 a1_2) := (blk_cell BK118.out 2).trans rfl
                    have hcz35_3 : wr.cell? ⟨gb118, 3, none⟩ = some (.slice A1_3 l1_3.length c1_3) := (blk_cell BK118.out 3).trans rfl
                    have hcz35_4 : wr.cell? ⟨gb118, 4, none⟩ = some (.slice A1_4 l1_4.length c1_4) := (blk_cell BK118.out 4).trans rfl
                    have hfz35_0 := blk_frozen BK118.out 0
                    have hfz35_1 := blk_frozen BK118.out 1
                    have hfz35_2 := blk_frozen BK118.out 2
                    have hfz35_3 := blk_frozen BK118.out 3
                    have hfz35_4 := blk_frozen BK118.out 4
                    have p120 : 0 ≤ (x5_2 : Int) := of_decide_eq_true (by first | (with_reducible assumption) | assumption)
                    have q120 : x5_2 < (l1_3.length : Int) := of_decide_eq_true (by first | (with_reducible assumption) | assumption)
                    obtain ⟨ad120, e120, hx120_0, hx120_1⟩ := at_T45 HR1_3.out x5_2 p120 q120
                    cases e120
                    replace hx120_0 := (HB.out.cell (World.block_lt_of_cell? w _ hx120_0)).trans hx120_0
                    replace hx120_1 := (HB.out.cell (World.block_lt_of_cell? w _ hx120_1)).trans hx120_1
                    replace p120 := eq_true p120
                    replace q120 := eq_true q120
                    go_wp2
                    repeat (go_quiet (fail); try go_wp2)
                    go_roundg k2
                    case measure => have := HJ2.out; have := HK2.out; omega
                    case rel => exact ⟨(wrap64 (x5_2 + 1)), (by first | rfl | (simp; done) | (simp [*]; done)), H', ⟨by have := HJ2.out; have := HK2.out; omega⟩, ⟨by (with_reducible repeat (first | refine blk_drewN ?_ _ | refine blk_drew ?_ | refine blk_alloc ?_ _)); exact BK117.out⟩, ⟨by (with_reducible repeat (first | refine blk_drewN ?_ _ | refine blk_drew ?_ | refine blk_alloc ?_ _)); exact BK118.out⟩, ⟨by repeat (first | (with_reducible first | exact HB.out | apply below_alloc | apply pw_below_drewN | apply below_drew1 | refine below_set ?_ GE117.out | refine below_set ?_ GE118.out) | exact HB.out)⟩⟩
                · rw [if_neg c28] at H
                  exact absurd H (by simp)
              · rw [if_neg c27] at H
                exact absurd H (by simp)
            · rw [if_neg c26] at H
              have c26b0 : decide (x5_2 < (l0_3.length : Int)) = false := decide_eq_false c26
              clear c26
              have H' := Aside0.mk H
              clear H
              have hnb36 := NB117_118.out
              have hnc36 := NB118_117.out
              have hcz37_0 : wr.cell? ⟨gb117, 0, none⟩ = some (.int .i64 a0_0) := (blk_cell BK117.out 0).trans rfl
              have hcz37_1 : wr.cell? ⟨gb117, 1, none⟩ = some (.int .i64 a0_1) := (blk_cell BK117.out 1).trans rfl
              have hcz37_2 : wr.cell? ⟨gb117, 2, none⟩ = some (.int .u64 a0_2) := (blk_cell BK117.out 2).trans rfl
              have hcz37_3 : wr.cell? ⟨gb117, 3, none⟩ = some (.slice A0_3 l0_3.length c0_3) := (blk_cell BK117.out 3).trans rfl
              have hcz37_4 : wr.cell? ⟨gb117, 4, none⟩ = some (.slice A0_4 l0_4.length c0_4) := (blk_cell BK117.out 4).trans rfl
              have hfz37_0 := blk_frozen BK117.out 0
              have hfz37_1 := blk_frozen BK117.out 1
              have hfz37_2 := blk_frozen BK117.out 2
              have hfz37_3 := blk_frozen BK117.out 3
              have hfz37_4 := blk_frozen BK117.out 4
              go_wp2
              repeat (go_quiet (fail); try go_wp2)
              go_loopg [6] k2 (fun kq v6 w' => ∃ (x6_3 : Int), v6 = .int .i64 x6_3 ∧ Aside0 (morainelaw15_same.l1 kq x6_3 a0_0 a0_1 a0_2 l0_3 l0_4 a1_0 a1_1 a1_2 l1_3 l1_4 = some r) ∧ Aside0 (kq ≤ k2) ∧ Aside0 (w'.heap[gb117]? = some (.cells #[.int .i64 a0_0, .int .i64 a0_1, .int .u64 a0_2, (.slice A0_3 l0_3.length c0_3), (.slice A0_4 l0_4.length c0_4)] 31 (0, 0))) ∧ Aside0 (w'.heap[gb118]? = some (.cells #[.int .i64 a1_0, .int .i64 a1_1, .int .u64 a1_2, (.slice A1_3 l1_3.length c1_3), (.slice A1_4 l1_4.length c1_4)] 31 (0, 0))) ∧ Aside0 (Below w.heap.size w w'))
              case atStart => exact ⟨(0), (by first | rfl | (simp; done) | (simp [*]; done)), H', ⟨Nat.le_refl _⟩, ⟨by (with_reducible repeat (first | refine blk_drewN ?_ _ | refine blk_drew ?_ | refine blk_alloc ?_ _)); exact BK117.out⟩, ⟨by (with_reducible repeat (first | refine blk_drewN ?_ _ | refine blk_drew ?_ | refine blk_alloc ?_ _)); exact BK118.out⟩, ⟨by repeat (first | (with_reducible first | exact HB.out | apply below_alloc | apply pw_below_drewN | apply below_drew1 | refine below_set ?_ GE117.out | refine below_set ?_ GE118.out) | exact HB.out)⟩⟩
              case round =>
                clear H'
                try clear c1
                try clear p1
                try clear q1
                try clear hx1
                try clear c2
                try clear p2
                try clear c3
                try clear c6
                try clear c6b0
                try clear c6b1
                try clear p6
                try clear c7
                try clear c7b0
                try clear c7b1
                try clear c8
                try clear c8b0
                try clear c8b1
                try clear c9
                try clear c9b0
                try clear c9b1
                try clear c9b2
                try clear c10
                try clear p11
                try clear q11
                try clear hx11
                try clear p12
                try clear q12
                try clear hx12
                try clear c13
                try clear c16
                try clear c19
                try clear c22
                try clear c25
                try clear c26
                try clear c26b0
                try clear c27
                try clear c27b0
                try clear c28
                try clear c28b0
                try clear c29
                try clear c29b0
                try clear c30
                try clear c33
                try clear c36
                try clear hcz11_0
                try clear hcz11_1
                try clear hcz11_2
                try clear hcz11_3
                try clear hcz11_4
                try clear hcz12_0
                try clear hcz12_1
                try clear hcz12_2
                try clear hcz12_3
                try clear hcz12_4
                try clear hcz14_0
                try clear hcz14_1
                try clear hcz14_2
                try clear hcz14_3
                try clear hcz14_4
                try clear hcz15_0
                try clear hcz15_1
                try clear hcz15_2
                try clear hcz15_3
                try clear hcz15_4
                try clear hcz17_0
                try clear hcz17_1
                try clear hcz17_2
                try clear hcz17_3
                try clear hcz17_4
                try clear hcz18_0
                try clear hcz18_1
                try clear hcz18_2
                try clear hcz18_3
                try clear hcz18_4
                try clear hcz20_0
                try clear hcz20_1
                try clear hcz20_2
                try clear hcz20_3
                try clear hcz20_4
                try clear hcz21_0
                try clear hcz21_1
                try clear hcz21_2
                try clear hcz21_3
                try clear hcz21_4
                try clear hcz23_0
                try clear hcz23_1
                try clear hcz23_2
                try clear hcz23_3
                try clear hcz23_4
                try clear hcz24_0
                try clear hcz24_1
                try clear hcz24_2
                try clear hcz24_3
                try clear hcz24_4
                try clear hcz31_0
                try clear hcz31_1
                try clear hcz31_2
                try clear hcz31_3
                try clear hcz31_4
                try clear hcz32_0
                try clear hcz32_1
                try clear hcz32_2
                try clear hcz32_3
                try clear hcz32_4
                try clear hcz34_0
                try clear hcz34_1
                try clear hcz34_2
                try clear hcz34_3
                try clear hcz34_4
                try clear hcz35_0
                try clear hcz35_1
                try clear hcz35_2
                try clear hcz35_3
                try clear hcz35_4
                try clear hcz37_0
                try clear hcz37_1
                try clear hcz37_2
                try clear hcz37_3
                try clear hcz37_4
                try clear hfz11_0
                try clear hfz11_1
                try clear hfz11_2
                try clear hfz11_3
                try clear hfz11_4
                try clear hfz12_0
                try clear hfz12_1
                try clear hfz12_2
                try clear hfz12_3
                try clear hfz12_4
                try clear hfz14_0
                try clear hfz14_1
                try clear hfz14_2
                try clear hfz14_3
                try clear hfz14_4
                try clear hfz15_0
                try clear hfz15_1
                try clear hfz15_2
                try clear hfz15_3
                try clear hfz15_4
                try clear hfz17_0
                try clear hfz17_1
                try clear hfz17_2
                try clear hfz17_3
                try clear hfz17_4
                try clear hfz18_0
                try clear hfz18_1
                try clear hfz18_2
                try clear hfz18_3
                try clear hfz18_4
                try clear hfz20_0
                try clear hfz20_1
                try clear hfz20_2
                try clear hfz20_3
                try clear hfz20_4
                try clear hfz21_0
                try clear hfz21_1
                try clear hfz21_2
                try clear hfz21_3
                try clear hfz21_4
                try clear hfz23_0
                try clear hfz23_1
                try clear hfz23_2
                try clear hfz23_3
                try clear hfz23_4
                try clear hfz24_0
                try clear hfz24_1
                try clear hfz24_2
                try clear hfz24_3
                try clear hfz24_4
                try clear hfz31_0
                try clear hfz31_1
                try clear hfz31_2
                try clear hfz31_3
                try clear hfz31_4
                try clear hfz32_0
                try clear hfz32_1
                try clear hfz32_2
                try clear hfz32_3
                try clear hfz32_4
                try clear hfz34_0
                try clear hfz34_1
                try clear hfz34_2
                try clear hfz34_3
                try clear hfz34_4
                try clear hfz35_0
                try clear hfz35_1
                try clear hfz35_2
                try clear hfz35_3
                try clear hfz35_4
                try clear hfz37_0
                try clear hfz37_1
                try clear hfz37_2
                try clear hfz37_3
                try clear hfz37_4
                try clear hx119_0
                try clear hx119_1
                try clear hx120_0
                try clear hx120_1
                try clear p119
                try clear p120
                try clear p2
                try clear q119
                try clear q120
                obtain ⟨x6_3, rfl, HA, HK3, BK117, BK118, HB⟩ := hrel
                cases gk with
                | zero => exact absurd HA.out (by simp [morainelaw15_same.l1])
                | succ k3 =>
                  have H := HA.out
                  clear HA
                  simp only [morainelaw15_same.l1] at H
                  by_cases c38 : x6_3 < (l0_4.length : Int)
                  · rw [if_pos c38] at H
                    have c38b0 : decide (x6_3 < (l0_4.length : Int)) = true := decide_eq_true c38
                    clear c38
                    by_cases c39 : 0 ≤ x6_3
                    · rw [if_pos c39] at H
                      have c39b0 : decide (0 ≤ x6_3) = true := decide_eq_true c39
                      clear c39
                      by_cases c40 : x6_3 < (l1_4.length : Int)
                      · rw [if_pos c40] at H
                        have c40b0 : decide (x6_3 < (l1_4.length : Int)) = true := decide_eq_true c40
                        clear c40
                        by_cases c41 : (!(((rd_T43 l0_4 x6_3).f0) == ((rd_T43 l1_4 x6_3).f0)) || ((!(((rd_T43 l0_4 x6_3).f1.f0) == ((rd_T43 l1_4 x6_3).f1.f0)) || (!(((rd_T43 l0_4 x6_3).f1.f1) == ((rd_T43 l1_4 x6_3).f1.f1)) || (!((((rd_T43 l0_4 x6_3).f1.f2).toList) == (((rd_T43 l1_4 x6_3).f1.f2).toList)) || (!((((rd_T43 l0_4 x6_3).f1.f3).toList) == (((rd_T43 l1_4 x6_3).f1.f3).toList)) || (!(((rd_T43 l0_4 x6_3).f1.f4) == ((rd_T43 l1_4 x6_3).f1.f4)) || (!(((rd_T43 l0_4 x6_3).f1.f5) == ((rd_T43 l1_4 x6_3).f1.f5)))))))))) = true
                        · rw [if_pos c41] at H
                          have c41b0 : (!(((rd_T43 l0_4 x6_3).f0) == ((rd_T43 l1_4 x6_3).f0)) || ((!(((rd_T43 l0_4 x6_3).f1.f0) == ((rd_T43 l1_4 x6_3).f1.f0)) || (!(((rd_T43 l0_4 x6_3).f1.f1) == ((rd_T43 l1_4 x6_3).f1.f1)) || (!((((rd_T43 l0_4 x6_3).f1.f2).toList) == (((rd_T43 l1_4 x6_3).f1.f2).toList)) || (!((((rd_T43 l0_4 x6_3).f1.f3).toList) == (((rd_T43 l1_4 x6_3).f1.f3).toList)) || (!(((rd_T43 l0_4 x6_3).f1.f4) == ((rd_T43 l1_4 x6_3).f1.f4)) || (!(((rd_T43 l0_4 x6_3).f1.f5) == ((rd_T43 l1_4 x6_3).f1.f5)))))))))) = true := c41
                          clear c41
                          obtain rfl := Option.some.inj H
                          have hnb42 := NB117_118.out
                          have hnc42 := NB118_117.out
                          have hcz43_0 : wr.cell? ⟨gb117, 0, none⟩ = some (.int .i64 a0_0) := (blk_cell BK117.out 0).trans rfl
                          have hcz43_1 : wr.cell? ⟨gb117, 1, none⟩ = some (.int .i64 a0_1) := (blk_cell BK117.out 1).trans rfl
                          have hcz43_2 : wr.cell? ⟨gb117, 2, none⟩ = some (.int .u64 a0_2) := (blk_cell BK117.out 2).trans rfl
                          have hcz43_3 : wr.cell? ⟨gb117, 3, none⟩ = some (.slice A0_3 l0_3.length c0_3) := (blk_cell BK117.out 3).trans rfl
                          have hcz43_4 : wr.cell? ⟨gb117, 4, none⟩ = some (.slice A0_4 l0_4.length c0_4) := (blk_cell BK117.out 4).trans rfl
                          have hfz43_0 := blk_frozen BK117.out 0
                          have hfz43_1 := blk_frozen BK117.out 1
                          have hfz43_2 := blk_frozen BK117.out 2
                          have hfz43_3 := blk_frozen BK117.out 3
                          have hfz43_4 := blk_frozen BK117.out 4
                          have p121 : 0 ≤ (x6_3 : Int) := of_decide_eq_true (by first | (with_reducible assumption) | assumption)
                          have q121 : x6_3 < (l0_4.length : Int) := of_decide_eq_true (by first | (with_reducible assumption) | assumption)
                          obtain ⟨ad121, e121, hx121_0, hx121_1, hx121_2, hx121_3, hx121_4, hx121_5, hx121_6⟩ := at_T43 HR0_4.out x6_3 p121 q121
                          cases e121
                          replace hx121_0 := (HB.out.cell (World.block_lt_of_cell? w _ hx121_0)).trans hx121_0
                          replace hx121_1 := (HB.out.cell (World.block_lt_of_cell? w _ hx121_1)).trans hx121_1
                          replace hx121_2 := (HB.out.cell (World.block_lt_of_cell? w _ hx121_2)).trans hx121_2
                          replace hx121_3 := (HB.out.cell (World.block_lt_of_cell? w _ hx121_3)).trans hx121_3
                          replace hx121_4 := (HB.out.cell (World.block_lt_of_cell? w _ hx121_4)).trans hx121_4
                          replace hx121_5 := (HB.out.cell (World.block_lt_of_cell? w _ hx121_5)).trans hx121_5
                          replace hx121_6 := (HB.out.cell (World.block_lt_of_cell? w _ hx121_6)).trans hx121_6
                          replace p121 := eq_true p121
                          replace q121 := eq_true q121
                          have hcz44_0 : wr.cell? ⟨gb118, 0, none⟩ = some (.int .i64 a1_0) := (blk_cell BK118.out 0).trans rfl
                          have hcz44_1 : wr.cell? ⟨gb118, 1, none⟩ = some (.int .i64 a1_1) := (blk_cell BK118.out 1).trans rfl
                          have hcz44_2 : wr.cell? ⟨gb118, 2, none⟩ = some (.int .u64 a1_2) := (blk_cell BK118.out 2).trans rfl
                          have hcz44_3 : wr.cell? ⟨gb118, 3, none⟩ = some (.slice A1_3 l1_3.length c1_3) := (blk_cell BK118.out 3).trans rfl
                          have hcz44_4 : wr.cell? ⟨gb118, 4, none⟩ = some (.slice A1_4 l1_4.length c1_4) := (blk_cell BK118.out 4).trans rfl
                          have hfz44_0 := blk_frozen BK118.out 0
                          have hfz44_1 := blk_frozen BK118.out 1
                          have hfz44_2 := blk_frozen BK118.out 2
                          have hfz44_3 := blk_frozen BK118.out 3
                          have hfz44_4 := blk_frozen BK118.out 4
                          have p122 : 0 ≤ (x6_3 : Int) := of_decide_eq_true (by first | (with_reducible assumption) | assumption)
                          have q122 : x6_3 < (l1_4.length : Int) := of_decide_eq_true (by first | (with_reducible assumption) | assumption)
                          obtain ⟨ad122, e122, hx122_0, hx122_1, hx122_2, hx122_3, hx122_4, hx122_5, hx122_6⟩ := at_T43 HR1_4.out x6_3 p122 q122
                          cases e122
                          replace hx122_0 := (HB.out.cell (World.block_lt_of_cell? w _ hx122_0)).trans hx122_0
                          replace hx122_1 := (HB.out.cell (World.block_lt_of_cell? w _ hx122_1)).trans hx122_1
                          replace hx122_2 := (HB.out.cell (World.block_lt_of_cell? w _ hx122_2)).trans hx122_2
                          replace hx122_3 := (HB.out.cell (World.block_lt_of_cell? w _ hx122_3)).trans hx122_3
                          replace hx122_4 := (HB.out.cell (World.block_lt_of_cell? w _ hx122_4)).trans hx122_4
                          replace hx122_5 := (HB.out.cell (World.block_lt_of_cell? w _ hx122_5)).trans hx122_5
                          replace hx122_6 := (HB.out.cell (World.block_lt_of_cell? w _ hx122_6)).trans hx122_6
                          replace p122 := eq_true p122
                          replace q122 := eq_true q122
                          go_wp2
                          repeat (go_quiet (fail); try go_wp2)
                          go_ret
                          exact ⟨by first | rfl | (simp [errW_none, errW_some] <;> rfl) | (simp [*, errW_none, errW_some] <;> rfl), by repeat (first | (with_reducible first | exact HB.out | apply below_alloc | apply pw_below_drewN | apply below_drew1 | refine below_set ?_ GE117.out | refine below_set ?_ GE118.out) | exact HB.out)⟩
                        · rw [if_neg c41] at H
                          have c41b0 : (!(((rd_T43 l0_4 x6_3).f0) == ((rd_T43 l1_4 x6_3).f0)) || ((!(((rd_T43 l0_4 x6_3).f1.f0) == ((rd_T43 l1_4 x6_3).f1.f0)) || (!(((rd_T43 l0_4 x6_3).f1.f1) == ((rd_T43 l1_4 x6_3).f1.f1)) || (!((((rd_T43 l0_4 x6_3).f1.f2).toList) == (((rd_T43 l1_4 x6_3).f1.f2).toList)) || (!((((rd_T43 l0_4 x6_3).f1.f3).toList) == (((rd_T43 l1_4 x6_3).f1.f3).toList)) || (!(((rd_T43 l0_4 x6_3).f1.f4) == ((rd_T43 l1_4 x6_3).f1.f4)) || (!(((rd_T43 l0_4 x6_3).f1.f5) == ((rd_T43 l1_4 x6_3).f1.f5)))))))))) = false := by simpa using c41
                          clear c41
                          have H' := Aside0.mk H
                          clear H
                          have hnb45 := NB117_118.out
                          have hnc45 := NB118_117.out
                          have hcz46_0 : wr.cell? ⟨gb117, 0, none⟩ = some (.int .i64 a0_0) := (blk_cell BK117.out 0).trans rfl
                          have hcz46_1 : wr.cell? ⟨gb117, 1, none⟩ = some (.int .i64 a0_1) := (blk_cell BK117.out 1).trans rfl
                          have hcz46_2 : wr.cell? ⟨gb117, 2, none⟩ = some (.int .u64 a0_2) := (blk_cell BK117.out 2).trans rfl
                          have hcz46_3 : wr.cell? ⟨gb117, 3, none⟩ = some (.slice A0_3 l0_3.length c0_3) := (blk_cell BK117.out 3).trans rfl
                          have hcz46_4 : wr.cell? ⟨gb117, 4, none⟩ = some (.slice A0_4 l0_4.length c0_4) := (blk_cell BK117.out 4).trans rfl
                          have hfz46_0 := blk_frozen BK117.out 0
                          have hfz46_1 := blk_frozen BK117.out 1
                          have hfz46_2 := blk_frozen BK117.out 2
                          have hfz46_3 := blk_frozen BK117.out 3
                          have hfz46_4 := blk_frozen BK117.out 4
                          have p121 : 0 ≤ (x6_3 : Int) := of_decide_eq_true (by first | (with_reducible assumption) | assumption)
                          have q121 : x6_3 < (l0_4.length : Int) := of_decide_eq_true (by first | (with_reducible assumption) | assumption)
                          obtain ⟨ad121, e121, hx121_0, hx121_1, hx121_2, hx121_3, hx121_4, hx121_5, hx121_6⟩ := at_T43 HR0_4.out x6_3 p121 q121
                          cases e121
                          replace hx121_0 := (HB.out.cell (World.block_lt_of_cell? w _ hx121_0)).trans hx121_0
                          replace hx121_1 := (HB.out.cell (World.block_lt_of_cell? w _ hx121_1)).trans hx121_1
                          replace hx121_2 := (HB.out.cell (World.block_lt_of_cell? w _ hx121_2)).trans hx121_2
                          replace hx121_3 := (HB.out.cell (World.block_lt_of_cell? w _ hx121_3)).trans hx121_3
                          replace hx121_4 := (HB.out.cell (World.block_lt_of_cell? w _ hx121_4)).trans hx121_4
                          replace hx121_5 := (HB.out.cell (World.block_lt_of_cell? w _ hx121_5)).trans hx121_5
                          replace hx121_6 := (HB.out.cell (World.block_lt_of_cell? w _ hx121_6)).trans hx121_6
                          replace p121 := eq_true p121
                          replace q121 := eq_true q121
                          have hcz47_0 : wr.cell? ⟨gb118, 0, none⟩ = some (.int .i64 a1_0) := (blk_cell BK118.out 0).trans rfl
                          have hcz47_1 : wr.cell? ⟨gb118, 1, none⟩ = some (.int .i64 a1_1) := (blk_cell BK118.out 1).trans rfl
                          have hcz47_2 : wr.cell? ⟨gb118, 2, none⟩ = some (.int .u64 a1_2) := (blk_cell BK118.out 2).trans rfl
                          have hcz47_3 : wr.cell? ⟨gb118, 3, none⟩ = some (.slice A1_3 l1_3.length c1_3) := (blk_cell BK118.out 3).trans rfl
                          have hcz47_4 : wr.cell? ⟨gb118, 4, none⟩ = some (.slice A1_4 l1_4.length c1_4) := (blk_cell BK118.out 4).trans rfl
                          have hfz47_0 := blk_frozen BK118.out 0
                          have hfz47_1 := blk_frozen BK118.out 1
                          have hfz47_2 := blk_frozen BK118.out 2
                          have hfz47_3 := blk_frozen BK118.out 3
                          have hfz47_4 := blk_frozen BK118.out 4
                          have p122 : 0 ≤ (x6_3 : Int) := of_decide_eq_true (by first | (with_reducible assumption) | assumption)
                          have q122 : x6_3 < (l1_4.length : Int) := of_decide_eq_true (by first | (with_reducible assumption) | assumption)
                          obtain ⟨ad122, e122, hx122_0, hx122_1, hx122_2, hx122_3, hx122_4, hx122_5, hx122_6⟩ := at_T43 HR1_4.out x6_3 p122 q122
                          cases e122
                          replace hx122_0 := (HB.out.cell (World.block_lt_of_cell? w _ hx122_0)).trans hx122_0
                          replace hx122_1 := (HB.out.cell (World.block_lt_of_cell? w _ hx122_1)).trans hx122_1
                          replace hx122_2 := (HB.out.cell (World.block_lt_of_cell? w _ hx122_2)).trans hx122_2
                          replace hx122_3 := (HB.out.cell (World.block_lt_of_cell? w _ hx122_3)).trans hx122_3
                          replace hx122_4 := (HB.out.cell (World.block_lt_of_cell? w _ hx122_4)).trans hx122_4
                          replace hx122_5 := (HB.out.cell (World.block_lt_of_cell? w _ hx122_5)).trans hx122_5
                          replace hx122_6 := (HB.out.cell (World.block_lt_of_cell? w _ hx122_6)).trans hx122_6
                          replace p122 := eq_true p122
                          replace q122 := eq_true q122
                          go_wp2
                          repeat (go_quiet (fail); try go_wp2)
                          go_roundg k3
                          case measure => have := HJ2.out; have := HK2.out; have := HK3.out; omega
                          case rel => exact ⟨(wrap64 (x6_3 + 1)), (by first | rfl | (simp; done) | (simp [*]; done)), H', ⟨by have := HJ2.out; have := HK2.out; have := HK3.out; omega⟩, ⟨by (with_reducible repeat (first | refine blk_drewN ?_ _ | refine blk_drew ?_ | refine blk_alloc ?_ _)); exact BK117.out⟩, ⟨by (with_reducible repeat (first | refine blk_drewN ?_ _ | refine blk_drew ?_ | refine blk_alloc ?_ _)); exact BK118.out⟩, ⟨by repeat (first | (with_reducible first | exact HB.out | apply below_alloc | apply pw_below_drewN | apply below_drew1 | refine below_set ?_ GE117.out | refine below_set ?_ GE118.out) | exact HB.out)⟩⟩
                      · rw [if_neg c40] at H
                        exact absurd H (by simp)
                    · rw [if_neg c39] at H
                      exact absurd H (by simp)
                  · rw [if_neg c38] at H
                    have c38b0 : decide (x6_3 < (l0_4.length : Int)) = false := decide_eq_false c38
                    clear c38
                    obtain rfl := Option.some.inj H
                    have hnb48 := NB117_118.out
                    have hnc48 := NB118_117.out
                    have hcz49_0 : wr.cell? ⟨gb117, 0, none⟩ = some (.int .i64 a0_0) := (blk_cell BK117.out 0).trans rfl
                    have hcz49_1 : wr.cell? ⟨gb117, 1, none⟩ = some (.int .i64 a0_1) := (blk_cell BK117.out 1).trans rfl
                    have hcz49_2 : wr.cell? ⟨gb117, 2, none⟩ = some (.int .u64 a0_2) := (blk_cell BK117.out 2).trans rfl
                    have hcz49_3 : wr.cell? ⟨gb117, 3, none⟩ = some (.slice A0_3 l0_3.length c0_3) := (blk_cell BK117.out 3).trans rfl
                    have hcz49_4 : wr.cell? ⟨gb117, 4, none⟩ = some (.slice A0_4 l0_4.length c0_4) := (blk_cell BK117.out 4).trans rfl
                    have hfz49_0 := blk_frozen BK117.out 0
                    have hfz49_1 := blk_frozen BK117.out 1
                    have hfz49_2 := blk_frozen BK117.out 2
                    have hfz49_3 := blk_frozen BK117.out 3
                    have hfz49_4 := blk_frozen BK117.out 4
                    go_wp2
                    repeat (go_quiet (fail); try go_wp2)
                    go_ret
                    exact ⟨by first | rfl | (simp [errW_none, errW_some] <;> rfl) | (simp [*, errW_none, errW_some] <;> rfl), by repeat (first | (with_reducible first | exact HB.out | apply below_alloc | apply pw_below_drewN | apply below_drew1 | refine below_set ?_ GE117.out | refine below_set ?_ GE118.out) | exact HB.out)⟩

end Go.Proofs.Ytppldgbgdgeegaa.G

/- Printed by the session's program over the kit's print, out of the translation: functions as plain Lean functions, and the proofs that the calls come to them. -/
namespace Go.Proofs.Ytppldgbgdgeegaa.G
open Go.RowKit Go.Proofs.YtppldgbgdgeegaaW.PrintWords Go.Proofs.YtppldgbgdgeegaaW.PrintLast Go.Proofs.YtppldgbgdgeegaaW.PrintMore
attribute [local go_sem] max2_int min2_int max_two min_two max_three min_three max_four min_four   -- for this text's walks alone
set_option linter.unusedVariables false
set_option linter.unusedSimpArgs false

/-! ### morainelaw15_spoil: function 9 -/
mutual
def morainelaw15_spoil.l0 : Nat → Int → Int → Int → Int → List (S45) → List (S43) → Option ((List (S45)) × (List (S43)))
  | 0, _, _, _, _, _, _ => none
  | k + 1, x2, x124000, x124001, x124002, x124003, x124004 => if x2 < (x124003.length : Int) then (if 0 ≤ x2 then (morainelaw15_spoil.l0 k (wrap64 (x2 + 1)) x124000 x124001 x124002 (x124003.set (x2 : Int).toNat (⟨(rd_T45 x124003 x2).f0, (-5)⟩ : S45)) x124004) else (none)) else (morainelaw15_spoil.l1 k 0 x124000 x124001 x124002 x124003 x124004)
def morainelaw15_spoil.l1 : Nat → Int → Int → Int → Int → List (S45) → List (S43) → Option ((List (S45)) × (List (S43)))
  | 0, _, _, _, _, _, _ => none
  | k + 1, x3, x124000, x124001, x124002, x124003, x124004 => if x3 < (x124004.length : Int) then (if 0 ≤ x3 then (morainelaw15_spoil.l1 k (wrap64 (x3 + 1)) x124000 x124001 x124002 x124003 (x124004.set (x3 : Int).toNat (⟨(-5), (⟨(rd_T43 x124004 x3).f1.f0, (rd_T43 x124004 x3).f1.f1, (rd_T43 x124004 x3).f1.f2, (rd_T43 x124004 x3).f1.f3, (rd_T43 x124004 x3).f1.f4, (rd_T43 x124004 x3).f1.f5⟩ : S36)⟩ : S43))) else (none)) else (some (x124003, x124004))
end
def morainelaw15_spoil.f (k : Nat) (a0_0 : Int) (a0_1 : Int) (a0_2 : Int) (l0_3 : List (S45)) (l0_4 : List (S43)) : Option ((List (S45)) × (List (S43))) := morainelaw15_spoil.l0 k 0 a0_0 a0_1 a0_2 l0_3 l0_4
theorem morainelaw15_spoil.mono_l : ∀ k, (∀ y0 y1 y2 y3 y4 y5, LeO (morainelaw15_spoil.l0 k y0 y1 y2 y3 y4 y5) (morainelaw15_spoil.l0 (k + 1) y0 y1 y2 y3 y4 y5)) ∧ (∀ y0 y1 y2 y3 y4 y5, LeO (morainelaw15_spoil.l1 k y0 y1 y2 y3 y4 y5) (morainelaw15_spoil.l1 (k + 1) y0 y1 y2 y3 y4 y5))
  | 0 => ⟨fun _ _ _ _ _ _ r h => by simp [morainelaw15_spoil.l0] at h, fun _ _ _ _ _ _ r h => by simp [morainelaw15_spoil.l1] at h⟩
  | k + 1 => by
    obtain ⟨ih0, ih1⟩ := morainelaw15_spoil.mono_l k
    refine ⟨?_, ?_⟩
    · intro y0 y1 y2 y3 y4 y5
      unfold morainelaw15_spoil.l0
      repeat' first
      | (with_reducible exact ih0 _ _ _ _ _ _)
      | (with_reducible exact ih1 _ _ _ _ _ _)
      | (with_reducible exact LeO.refl _)
      | (with_reducible exact LeO.none _)
      | (with_reducible refine LeO.ite ?_ ?_)
      | (with_reducible refine LeO.bind ?_ (fun _ => ?_))
      | exact ih0 _ _ _ _ _ _
      | exact ih1 _ _ _ _ _ _
      | exact LeO.none _
      | refine LeO.ite ?_ ?_
      | refine LeO.bind ?_ (fun _ => ?_)
    · intro y0 y1 y2 y3 y4 y5
      unfold morainelaw15_spoil.l1
      repeat' first
      | (with_reducible exact ih0 _ _ _ _ _ _)
      | (with_reducible exact ih1 _ _ _ _ _ _)
      | (with_reducible exact LeO.refl _)
      | (with_reducible exact LeO.none _)
      | (with_reducible refine LeO.ite ?_ ?_)
      | (with_reducible refine LeO.bind ?_ (fun _ => ?_))
      | exact ih0 _ _ _ _ _ _
      | exact ih1 _ _ _ _ _ _
      | exact LeO.none _
      | refine LeO.ite ?_ ?_
      | refine LeO.bind ?_ (fun _ => ?_)
theorem morainelaw15_spoil.mono : ∀ a0 a1 a2 a3 a4 k, LeO (morainelaw15_spoil.f k a0 a1 a2 a3 a4) (morainelaw15_spoil.f (k + 1) a0 a1 a2 a3 a4) := by
  intro a0 a1 a2 a3 a4 k
  obtain ⟨ih0, ih1⟩ := morainelaw15_spoil.mono_l k
  unfold morainelaw15_spoil.f
  repeat' first
      | (with_reducible exact ih0 _ _ _ _ _ _)
      | (with_reducible exact ih1 _ _ _ _ _ _)
      | (with_reducible exact LeO.refl _)
      | (with_reducible exact LeO.none _)
      | (with_reducible refine LeO.ite ?_ ?_)
      | (with_reducible refine LeO.bind ?_ (fun _ => ?_))
      | exact ih0 _ _ _ _ _ _
      | exact ih1 _ _ _ _ _ _
      | exact LeO.none _
      | refine LeO.ite ?_ ?_
      | refine LeO.bind ?_ (fun _ => ?_)
set_option maxHeartbeats 8000000 in
set_option maxRecDepth 100000 in
theorem morainelaw15_spoil.calls (k : Nat) (a0_0 : Int) (a0_1 : Int) (a0_2 : Int) (P0_3_ : Nat → Prop) (u9000_ : Value) (l0_3 : List (S45)) (P0_4_ : Nat → Prop) (u9001_ : Value) (l0_4 : List (S43)) (r1 : List (S45)) (r2 : List (S43)) (w0 w : World) (hB : Below w0.heap.size w0 w) (ho0_3 : Kd.R k45 45 w w0.heap.size P0_3_ u9000_ l0_3) (ho0_4 : Kd.R k43 43 w w0.heap.size P0_4_ u9001_ l0_4) (h : morainelaw15_spoil.f k a0_0 a0_1 a0_2 l0_3 l0_4 = some (r1, r2)) :
    Calls Try.prog 9 #[.agg #[.int .i64 a0_0, .int .i64 a0_1, .int .u64 a0_2, u9000_, u9001_]] w fun e w' => e = .returned (.tuple #[]) ∧ Kd.R k45 45 w' w0.heap.size (fun k_ => ((P0_3_ k_ ∨ P0_4_ k_) ∨ w.heap.size ≤ k_)) u9000_ r1 ∧ Kd.R k43 43 w' w0.heap.size (fun k_ => ((P0_3_ k_ ∨ P0_4_ k_) ∨ w.heap.size ≤ k_)) u9001_ r2 ∧ Below w0.heap.size w0 w' ∧ Kept w w' (fun k_ => P0_3_ k_ ∨ P0_4_ k_) := by
  have hu31 := Try.underlying31
  have HO0_3 := Aside0.mk (show Kd.R k45 45 w w0.heap.size (fun k_ => ((P0_3_ k_ ∨ P0_4_ k_) ∨ w.heap.size ≤ k_)) u9000_ l0_3 from Kd.R_mono ho0_3 (fun k_ hk => (.inl (.inl hk))))
  have HO0_4 := Aside0.mk (show Kd.R k43 43 w w0.heap.size (fun k_ => ((P0_3_ k_ ∨ P0_4_ k_) ∨ w.heap.size ≤ k_)) u9001_ l0_4 from Kd.R_mono ho0_4 (fun k_ hk => (.inl (.inr hk))))
  have HK := Aside0.mk (Kept.refl w (fun k_ => P0_3_ k_ ∨ P0_4_ k_))
  have HW0 := Aside0.mk hB.size
  have HB := Aside0.mk hB
  clear hB
  have H : (morainelaw15_spoil.l0 k 0 a0_0 a0_1 a0_2 l0_3 l0_4) = some (r1, r2) := h
  clear h
  have H' := Aside0.mk H
  clear H
  obtain ⟨Ao2, co2, eo2⟩ := Kd.R_slice HO0_3.out
  subst eo2
  obtain ⟨Ao3, co3, eo3⟩ := Kd.R_slice HO0_4.out
  subst eo3
  go_enter Try.func9, Try.ntmps9
  go_wp2_with (first | ((with_reducible refine gate_dst (N := 1) rfl ?_); refine box_event ?hg (N := 1) ?hd (cs := #[.int .i64 a0_0, .int .i64 a0_1, .int .u64 a0_2, .slice Ao2 l0_3.length co2, .slice Ao3 l0_4.length co3]) (t := 31) ?hr ?_; (case hd => rfl); (case hg => rfl); (case hr => first | (go_simp; done) | (go_simp; rfl)); intro gb123 hg w4 hbox hb; have n0_ := Aside0.mk (Kd.R_below (by (with_reducible repeat (first | apply Kd.R_alloc | apply Kd.R_drewN | apply Kd.R_drew)); exact HO0_3.out) hb); have n1_ := Aside0.mk (Kd.R_below (by (with_reducible repeat (first | apply Kd.R_alloc | apply Kd.R_drewN | apply Kd.R_drew)); exact HO0_4.out) hb); have n2_ := Aside0.mk (Kept.below (S := (fun k_ => P0_3_ k_ ∨ P0_4_ k_)) (by repeat (first | (with_reducible first | exact HK.out | apply Kept.alloc | apply Kept.drewN | apply Kept.drew) | exact HK.out)) hb); have n3_ := Aside0.mk (below_step (by repeat (first | (with_reducible first | exact HB.out | apply below_alloc | apply pw_below_drewN | apply below_drew1) | exact HB.out)) hb); have n4_ := Aside0.mk (hbox); have n5_ := Aside0.mk ((by rw [hg]; exact (by first | exact HK.out.1 | exact (show Kept w _ (fun k_ => P0_3_ k_ ∨ P0_4_ k_) from by repeat (first | (with_reducible first | exact HK.out | apply Kept.alloc | apply Kept.drewN | apply Kept.drew) | exact HK.out)).1) : w.heap.size ≤ gb123)); have n6_ := Aside0.mk ((by rw [hg]; exact (below_size (by repeat (first | (with_reducible first | exact HB.out | apply below_alloc | apply pw_below_drewN | apply below_drew1) | exact HB.out))) : w0.heap.size ≤ gb123)); clear HO0_3; clear HO0_4; clear HK; clear HB; have HO0_3 := n0_; have HO0_4 := n1_; have HK := n2_; have HB := n3_; have BK123 := n4_; have GW123 := n5_; have GE123 := n6_; clear n0_ n1_ n2_ n3_ n4_ n5_ n6_; clear hb hbox hg))
  go_loopg [2] k (fun kq v2 w' => ∃ (x2_1 : Int) (x124003_1 : List (S45)), v2 = .int .i64 x2_1 ∧ Aside0 (morainelaw15_spoil.l0 kq x2_1 a0_0 a0_1 a0_2 x124003_1 l0_4 = some (r1, r2)) ∧ Aside0 (kq ≤ k) ∧ Aside0 (Kd.R k45 45 w' w0.heap.size (fun k_ => ((P0_3_ k_ ∨ P0_4_ k_) ∨ w.heap.size ≤ k_)) (.slice Ao2 l0_3.length co2) x124003_1) ∧ Aside0 (Kd.R k43 43 w' w0.heap.size (fun k_ => ((P0_3_ k_ ∨ P0_4_ k_) ∨ w.heap.size ≤ k_)) (.slice Ao3 l0_4.length co3) l0_4) ∧ Aside0 (w'.heap[gb123]? = some (.cells #[.int .i64 a0_0, .int .i64 a0_1, .int .u64 a0_2, (.slice Ao2 l0_3.length co2), (.slice Ao3 l0_4.length co3)] 31 (0, 0))) ∧ Aside0 (Kept w w' (fun k_ => P0_3_ k_ ∨ P0_4_ k_)) ∧ Aside0 (Below w0.heap.size w0 w'))
  case atStart => exact ⟨(0), (l0_3), (by first | rfl | (simp; done) | (simp [*]; done)), H', ⟨Nat.le_refl _⟩, ⟨by (with_reducible repeat (first | apply Kd.R_alloc | apply Kd.R_drewN | apply Kd.R_drew)); exact HO0_3.out⟩, ⟨by (with_reducible repeat (first | apply Kd.R_alloc | apply Kd.R_drewN | apply Kd.R_drew)); exact HO0_4.out⟩, ⟨by (with_reducible repeat (first | refine blk_drewN ?_ _ | refine blk_drew ?_ | refine blk_alloc ?_ _)); exact BK123.out⟩, ⟨by repeat (first | (with_reducible first | exact HK.out | apply Kept.alloc | apply Kept.drewN | apply Kept.drew | refine Kept.setCell ?_ (.inr GW123.out) _) | exact HK.out)⟩, ⟨by repeat (first | (with_reducible first | exact HB.out | apply below_alloc | apply pw_below_drewN | apply below_drew1 | refine below_set ?_ GE123.out) | exact HB.out)⟩⟩
  case round =>
    clear H'
    try clear p2
    obtain ⟨x2_1, x124003_1, rfl, HA, HK1, HO_124003, HO_124004, BK123, HK, HB⟩ := hrel
    have hl124003_1 := (Kd.R_reads' HO_124003.out).1
    rw [hl124003_1] at HO_124003
    (try simp only [hl124003_1])
    (try simp only [hl124003_1] at BK123)
    (try simp only [hl124003_1] at HO_124004)
    cases gk with
    | zero => exact absurd HA.out (by simp [morainelaw15_spoil.l0])
    | succ k1 =>
      have H := HA.out
      clear HA
      simp only [morainelaw15_spoil.l0] at H
      by_cases c5 : x2_1 < (x124003_1.length : Int)
      · rw [if_pos c5] at H
        have c5b0 : decide (x2_1 < (x124003_1.length : Int)) = true := decide_eq_true c5
        clear c5
        by_cases c6 : 0 ≤ x2_1
        · rw [if_pos c6] at H
          have c6b0 : decide (0 ≤ x2_1) = true := decide_eq_true c6
          clear c6
          obtain ⟨y124, hy124⟩ : ∃ y_ : List (S45), y_ = (x124003_1.set (x2_1 : Int).toNat (⟨(rd_T45 x124003_1 x2_1).f0, (-5)⟩ : S45)) := ⟨_, rfl⟩
          replace H : (morainelaw15_spoil.l0 k1 (wrap64 (x2_1 + 1)) a0_0 a0_1 a0_2 y124 l0_4) = some (r1, r2) := by first | (rw [hy124]; with_reducible exact H) | (have H2_ := (Option.bind_some _ _).symm.trans H; rw [hy124]; with_reducible exact H2_) | (have H2_ := (Option.bind_some _ _).symm.trans H; with_reducible exact H2_) | with_reducible exact H | (rw [hy124]; exact H) | exact H
          have Ny124 := Aside0.mk hy124
          clear hy124
          have H' := Aside0.mk H
          clear H
          have hcz8_0 : wr.cell? ⟨gb123, 0, none⟩ = some (.int .i64 a0_0) := (blk_cell BK123.out 0).trans rfl
          have hcz8_1 : wr.cell? ⟨gb123, 1, none⟩ = some (.int .i64 a0_1) := (blk_cell BK123.out 1).trans rfl
          have hcz8_2 : wr.cell? ⟨gb123, 2, none⟩ = some (.int .u64 a0_2) := (blk_cell BK123.out 2).trans rfl
          have hcz8_3 : wr.cell? ⟨gb123, 3, none⟩ = some (.slice Ao2 x124003_1.length co2) := (blk_cell BK123.out 3).trans rfl
          have hcz8_4 : wr.cell? ⟨gb123, 4, none⟩ = some (.slice Ao3 l0_4.length co3) := (blk_cell BK123.out 4).trans rfl
          have hfz8_0 := blk_frozen BK123.out 0
          have hfz8_1 := blk_frozen BK123.out 1
          have hfz8_2 := blk_frozen BK123.out 2
          have hfz8_3 := blk_frozen BK123.out 3
          have hfz8_4 := blk_frozen BK123.out 4
          have p7 : 0 ≤ (x2_1 : Int) := of_decide_eq_true (by first | (with_reducible assumption) | assumption)
          have q7 : (x2_1 : Int) < ((x124003_1.length : Int) : Int) := of_decide_eq_true (by first | (with_reducible assumption) | assumption)
          obtain ⟨go7, co7, eo7, gb7, gl7, cl7, HG7⟩ := Kd.R_form HO_124003.out (by omega)
          (first | cases eo7 | (injection eo7 with ea_ en_ ec_; (first | subst ea_ | (injection ea_ with ea_; subst ea_)); subst ec_; clear en_))
          have GB7 := Aside0.mk gb7
          have GG7 := Aside0.mk HG7
          clear gb7 gl7 HG7
          have HMgo7 := Aside0.mk (show ((P0_3_ go7 ∨ P0_4_ go7) ∨ w.heap.size ≤ go7) from (HO_124003.out.1 _ rfl))
          obtain ⟨ce7, hcl7, hM7, hcc7, hfr7⟩ := Kd.R_elem HO_124003.out z45 (x2_1 : Int) p7 q7
          obtain rfl := k45_openM hM7
          have hx7_0 : wr.cell? ⟨go7, (x2_1 : Int).toNat * 2, none⟩ = some (.int .i64 ((rd_T45 x124003_1 x2_1).f0)) := hcc7 0 _ rfl
          have hx7_1 : wr.cell? ⟨go7, (x2_1 : Int).toNat * 2 + 1, none⟩ = some (.int .i64 ((rd_T45 x124003_1 x2_1).f1)) := hcc7 1 _ rfl
          have hf7_0 : wr.frozen? ⟨go7, (x2_1 : Int).toNat * 2, none⟩ = false := hfr7 0
          have hf7_1 : wr.frozen? ⟨go7, (x2_1 : Int).toNat * 2 + 1, none⟩ = false := hfr7 1
          clear hcl7 hcc7 hfr7 hM7
          replace p7 := eq_true p7
          replace q7 := eq_true q7
          have HX9 := Aside0.mk (show Kd.R k45 45 wr w0.heap.size (fun k_ => ((P0_3_ k_ ∨ P0_4_ k_) ∨ w.heap.size ≤ k_)) (.slice (some ⟨go7, 0, none⟩) x124003_1.length co2) x124003_1 from (by (with_reducible repeat (first | apply Kd.R_alloc | apply Kd.R_drewN | apply Kd.R_drew)); exact HO_124003.out))
          obtain ⟨ce9, hcl9, hM9, hcc9, hfr9⟩ := Kd.R_elem HX9.out z45 (x2_1 : Int) (of_decide_eq_true (by first | (with_reducible assumption) | assumption)) (by have h_ : (x2_1 : Int) < ((x124003_1.length : Int) : Int) := of_decide_eq_true (by first | (with_reducible assumption) | assumption); first | exact h_ | (have e_ := (Kd.R_reads' HO_124003.out).1; omega) | simpa using h_)
          obtain rfl := k45_openM hM9
          have HP9 := Kd.R_seg HX9.out (x2_1 : Int) (of_decide_eq_true (by first | (with_reducible assumption) | assumption)) (by have h_ : (x2_1 : Int) < ((x124003_1.length : Int) : Int) := of_decide_eq_true (by first | (with_reducible assumption) | assumption); first | exact h_ | (have e_ := (Kd.R_reads' HO_124003.out).1; omega) | simpa using h_) (seg := [.int .i64 (-5)]) (j := 1) hcl9 hcc9 (show 2 ≤ 2 from by decide) (x' := (⟨(rd_T45 x124003_1 x2_1).f0, (-5)⟩ : S45)) (k45_mkM _ _ _ (⟨(rd_T45 x124003_1 x2_1).f0, (-5)⟩ : S45) ) (fun _ hk => hk)
          have hx9_1 := hcc9 1 _ rfl
          (try simp only [show (k45).sz = 2 from rfl, Nat.mul_one, Nat.add_zero] at hx9_1)
          have hf9_1 := hfr9 1
          (try simp only [show (k45).sz = 2 from rfl, Nat.mul_one, Nat.add_zero] at hf9_1)
          clear hcl9 hcc9 hfr9 hM9
          go_wp2_with (first | ((with_reducible refine gate_store (t := 3) (p := 15) rfl ?_); refine store_event (t := 3) (p := 15) (v := ?vo_w10) (w1 := (wr.setCell ⟨go7, (x2_1 : Int).toNat * 2 + 1, none⟩ (.int .i64 (-5)))) ?hg ?ho ?hn ?hr ?_; (case ho => rfl); (case hg => rfl); (case hn => rfl); (case hr => first | (go_simp; done) | (go_simp; rfl)); intro w10 hw; have hg : wr.grownBy w10 (some go7) := (by rw [hw]; exact HP9.2); have hp_ : Kd.R k45 45 w10 w0.heap.size (fun k_ => ((P0_3_ k_ ∨ P0_4_ k_) ∨ w.heap.size ≤ k_)) (.slice (some ⟨go7, 0, none⟩) x124003_1.length co2) y124 := (by rw [hw, Ny124.out]; exact HP9.1); clear HP9; have n0_ := Aside0.mk (hp_); have n1_ := Aside0.mk (Kd.R_over' (v := (.slice (some ⟨go7, 0, none⟩) x124003_1.length co2)) (by (with_reducible repeat (first | apply Kd.R_alloc | apply Kd.R_drewN | apply Kd.R_drew)); exact HO_124004.out) (Kd.R_typed HO_124003.out) (by decide) hg); have n2_ := Aside0.mk (blk_grown (g := gb123) (o := .cells #[.int .i64 a0_0, .int .i64 a0_1, .int .u64 a0_2, .slice (some ⟨go7, 0, none⟩) x124003_1.length co2, .slice Ao3 l0_4.length co3] 31 (0, 0)) (by (with_reducible repeat (first | refine blk_drewN ?_ _ | refine blk_drew ?_ | refine blk_alloc ?_ _)); exact BK123.out) hg (Kd.R_ne HO_124003.out BK123.out (by decide))); have n3_ := Aside0.mk ((by rw [hw]; exact below_set (HB.out) GB7.out : Below w0.heap.size w0 w10)); have n4_ := Aside0.mk (Kept.of_grown (S := (fun k_ => P0_3_ k_ ∨ P0_4_ k_)) hg (by repeat (first | (with_reducible first | exact HK.out | apply Kept.alloc | apply Kept.drewN | apply Kept.drew | refine Kept.setCell ?_ (.inr GW123.out) _) | exact HK.out)) (fun k_ e_ => (HO_124003.out.1 k_ e_))); clear HO_124003; clear HO_124004; clear BK123; clear HB; clear HK; have HO_124003 := n0_; have HO_124004 := n1_; have BK123 := n2_; have HB := n3_; have HK := n4_; clear n0_ n1_ n2_ n3_ n4_; clear hg hw hp_))
          (try simp only [← hl124003_1])
          go_roundg k1
          case measure => have := HK1.out; omega
          case rel => exact ⟨(wrap64 (x2_1 + 1)), (y124), (by first | rfl | (simp; done) | (simp [*]; done)), H', ⟨by have := HK1.out; omega⟩, ⟨by (try simp only [hl124003_1]); (with_reducible repeat (first | apply Kd.R_alloc | apply Kd.R_drewN | apply Kd.R_drew)); exact HO_124003.out⟩, ⟨by (try simp only [hl124003_1]); (with_reducible repeat (first | apply Kd.R_alloc | apply Kd.R_drewN | apply Kd.R_drew)); exact HO_124004.out⟩, ⟨by (try simp only [hl124003_1]); (with_reducible repeat (first | refine blk_drewN ?_ _ | refine blk_drew ?_ | refine blk_alloc ?_ _)); exact BK123.out⟩, ⟨by repeat (first | (with_reducible first | exact HK.out | apply Kept.alloc | apply Kept.drewN | apply Kept.drew | refine Kept.setCell ?_ (.inr GW123.out) _) | exact HK.out)⟩, ⟨by repeat (first | (with_reducible first | exact HB.out | apply below_alloc | apply pw_below_drewN | apply below_drew1 | refine below_set ?_ GE123.out) | exact HB.out)⟩⟩
        · rw [if_neg c6] at H
          exact absurd H (by simp)
      · rw [if_neg c5] at H
        have c5b0 : decide (x2_1 < (x124003_1.length : Int)) = false := decide_eq_false c5
        clear c5
        have H' := Aside0.mk H
        clear H
        have hcz11_0 : wr.cell? ⟨gb123, 0, none⟩ = some (.int .i64 a0_0) := (blk_cell BK123.out 0).trans rfl
        have hcz11_1 : wr.cell? ⟨gb123, 1, none⟩ = some (.int .i64 a0_1) := (blk_cell BK123.out 1).trans rfl
        have hcz11_2 : wr.cell? ⟨gb123, 2, none⟩ = some (.int .u64 a0_2) := (blk_cell BK123.out 2).trans rfl
        have hcz11_3 : wr.cell? ⟨gb123, 3, none⟩ = some (.slice Ao2 x124003_1.length co2) := (blk_cell BK123.out 3).trans rfl
        have hcz11_4 : wr.cell? ⟨gb123, 4, none⟩ = some (.slice Ao3 l0_4.length co3) := (blk_cell BK123.out 4).trans rfl
        have hfz11_0 := blk_frozen BK123.out 0
        have hfz11_1 := blk_frozen BK123.out 1
        have hfz11_2 := blk_frozen BK123.out 2
        have hfz11_3 := blk_frozen BK123.out 3
        have hfz11_4 := blk_frozen BK123.out 4
        go_wp2
        go_loopg [3] k1 (fun kq v3 w' => ∃ (x3_2 : Int) (x124004_2 : List (S43)), v3 = .int .i64 x3_2 ∧ Aside0 (morainelaw15_spoil.l1 kq x3_2 a0_0 a0_1 a0_2 x124003_1 x124004_2 = some (r1, r2)) ∧ Aside0 (kq ≤ k1) ∧ Aside0 (Kd.R k45 45 w' w0.heap.size (fun k_ => ((P0_3_ k_ ∨ P0_4_ k_) ∨ w.heap.size ≤ k_)) (.slice Ao2 x124003_1.length co2) x124003_1) ∧ Aside0 (Kd.R k43 43 w' w0.heap.size (fun k_ => ((P0_3_ k_ ∨ P0_4_ k_) ∨ w.heap.size ≤ k_)) (.slice Ao3 l0_4.length co3) x124004_2) ∧ Aside0 (w'.heap[gb123]? = some (.cells #[.int .i64 a0_0, .int .i64 a0_1, .int .u64 a0_2, (.slice Ao2 x124003_1.length co2), (.slice Ao3 l0_4.length co3)] 31 (0, 0))) ∧ Aside0 (Kept w w' (fun k_ => P0_3_ k_ ∨ P0_4_ k_)) ∧ Aside0 (Below w0.heap.size w0 w'))
        case atStart => exact ⟨(0), (l0_4), (by first | rfl | (simp; done) | (simp [*]; done)), H', ⟨Nat.le_refl _⟩, ⟨by (try simp only [hl124003_1]); (with_reducible repeat (first | apply Kd.R_alloc | apply Kd.R_drewN | apply Kd.R_drew)); exact HO_124003.out⟩, ⟨by (try simp only [hl124003_1]); (with_reducible repeat (first | apply Kd.R_alloc | apply Kd.R_drewN | apply Kd.R_drew)); exact HO_124004.out⟩, ⟨by (try simp only [hl124003_1]); (with_reducible repeat (first | refine blk_drewN ?_ _ | refine blk_drew ?_ | refine blk_alloc ?_ _)); exact BK123.out⟩, ⟨by repeat (first | (with_reducible first | exact HK.out | apply Kept.alloc | apply Kept.drewN | apply Kept.drew | refine Kept.setCell ?_ (.inr GW123.out) _) | exact HK.out)⟩, ⟨by repeat (first | (with_reducible first | exact HB.out | apply below_alloc | apply pw_below_drewN | apply below_drew1 | refine below_set ?_ GE123.out) | exact HB.out)⟩⟩
        case round =>
          clear H'
          try clear p2
          try clear c5
          try clear c5b0
          try clear c6
          try clear c6b0
          try clear p6
          try clear c7
          try clear p7
          try clear q7
          try clear hx7
          try clear hf7
          try clear c9
          try clear hx9
          try clear hf9
          try clear hcz11_0
          try clear hcz11_1
          try clear hcz11_2
          try clear hcz11_3
          try clear hcz11_4
          try clear hcz8_0
          try clear hcz8_1
          try clear hcz8_2
          try clear hcz8_3
          try clear hcz8_4
          try clear hfz11_0
          try clear hfz11_1
          try clear hfz11_2
          try clear hfz11_3
          try clear hfz11_4
          try clear hfz8_0
          try clear hfz8_1
          try clear hfz8_2
          try clear hfz8_3
          try clear hfz8_4
          try clear hx7_0
          try clear hx7_1
          try clear hx9_1
          try clear p2
          try clear p7
          try clear q7
          obtain ⟨x3_2, x124004_2, rfl, HA, HK2, HO_124003, HO_124004, BK123, HK, HB⟩ := hrel
          have hl124004_2 := (Kd.R_reads' HO_124004.out).1
          rw [hl124004_2] at HO_124004
          (try simp only [hl124004_2])
          (try simp only [hl124004_2] at BK123)
          (try simp only [hl124004_2] at HO_124003)
          cases gk with
          | zero => exact absurd HA.out (by simp [morainelaw15_spoil.l1])
          | succ k2 =>
            have H := HA.out
            clear HA
            simp only [morainelaw15_spoil.l1] at H
            by_cases c12 : x3_2 < (x124004_2.length : Int)
            · rw [if_pos c12] at H
              have c12b0 : decide (x3_2 < (x124004_2.length : Int)) = true := decide_eq_true c12
              clear c12
              by_cases c13 : 0 ≤ x3_2
              · rw [if_pos c13] at H
                have c13b0 : decide (0 ≤ x3_2) = true := decide_eq_true c13
                clear c13
                obtain ⟨y125, hy125⟩ : ∃ y_ : List (S43), y_ = (x124004_2.set (x3_2 : Int).toNat (⟨(-5), (⟨(rd_T43 x124004_2 x3_2).f1.f0, (rd_T43 x124004_2 x3_2).f1.f1, (rd_T43 x124004_2 x3_2).f1.f2, (rd_T43 x124004_2 x3_2).f1.f3, (rd_T43 x124004_2 x3_2).f1.f4, (rd_T43 x124004_2 x3_2).f1.f5⟩ : S36)⟩ : S43)) := ⟨_, rfl⟩
                replace H : (morainelaw15_spoil.l1 k2 (wrap64 (x3_2 + 1)) a0_0 a0_1 a0_2 x124003_1 y125) = some (r1, r2) := by first | (rw [hy125]; with_reducible exact H) | (have H2_ := (Option.bind_some _ _).symm.trans H; rw [hy125]; with_reducible exact H2_) | (have H2_ := (Option.bind_some _ _).symm.trans H; with_reducible exact H2_) | with_reducible exact H | (rw [hy125]; exact H) | exact H
                have Ny125 := Aside0.mk hy125
                clear hy125
                have H' := Aside0.mk H
                clear H
                have hcz15_0 : wr.cell? ⟨gb123, 0, none⟩ = some (.int .i64 a0_0) := (blk_cell BK123.out 0).trans rfl
                have hcz15_1 : wr.cell? ⟨gb123, 1, none⟩ = some (.int .i64 a0_1) := (blk_cell BK123.out 1).trans rfl
                have hcz15_2 : wr.cell? ⟨gb123, 2, none⟩ = some (.int .u64 a0_2) := (blk_cell BK123.out 2).trans rfl
                have hcz15_3 : wr.cell? ⟨gb123, 3, none⟩ = some (.slice Ao2 x124003_1.length co2) := (blk_cell BK123.out 3).trans rfl
                have hcz15_4 : wr.cell? ⟨gb123, 4, none⟩ = some (.slice Ao3 x124004_2.length co3) := (blk_cell BK123.out 4).trans rfl
                have hfz15_0 := blk_frozen BK123.out 0
                have hfz15_1 := blk_frozen BK123.out 1
                have hfz15_2 := blk_frozen BK123.out 2
                have hfz15_3 := blk_frozen BK123.out 3
                have hfz15_4 := blk_frozen BK123.out 4
                have p14 : 0 ≤ (x3_2 : Int) := of_decide_eq_true (by first | (with_reducible assumption) | assumption)
                have q14 : (x3_2 : Int) < ((x124004_2.length : Int) : Int) := of_decide_eq_true (by first | (with_reducible assumption) | assumption)
                obtain ⟨go14, co14, eo14, gb14, gl14, cl14, HG14⟩ := Kd.R_form HO_124004.out (by omega)
                (first | cases eo14 | (injection eo14 with ea_ en_ ec_; (first | subst ea_ | (injection ea_ with ea_; subst ea_)); subst ec_; clear en_))
                have GB14 := Aside0.mk gb14
                have GG14 := Aside0.mk HG14
                clear gb14 gl14 HG14
                have HMgo14 := Aside0.mk (show ((P0_3_ go14 ∨ P0_4_ go14) ∨ w.heap.size ≤ go14) from (HO_124004.out.1 _ rfl))
                obtain ⟨ce14, hcl14, hM14, hcc14, hfr14⟩ := Kd.R_elem HO_124004.out z43 (x3_2 : Int) p14 q14
                obtain rfl := k43_openM hM14
                have hx14_0 : wr.cell? ⟨go14, (x3_2 : Int).toNat * 7, none⟩ = some (.int .i64 ((rd_T43 x124004_2 x3_2).f0)) := hcc14 0 _ rfl
                have hx14_1 : wr.cell? ⟨go14, (x3_2 : Int).toNat * 7 + 1, none⟩ = some (.int .i64 ((rd_T43 x124004_2 x3_2).f1.f0)) := hcc14 1 _ rfl
                have hx14_2 : wr.cell? ⟨go14, (x3_2 : Int).toNat * 7 + 2, none⟩ = some (.int .i64 ((rd_T43 x124004_2 x3_2).f1.f1)) := hcc14 2 _ rfl
                have hx14_3 : wr.cell? ⟨go14, (x3_2 : Int).toNat * 7 + 3, none⟩ = some (.string ((rd_T43 x124004_2 x3_2).f1.f2)) := hcc14 3 _ rfl
                have hx14_4 : wr.cell? ⟨go14, (x3_2 : Int).toNat * 7 + 4, none⟩ = some (.string ((rd_T43 x124004_2 x3_2).f1.f3)) := hcc14 4 _ rfl
                have hx14_5 : wr.cell? ⟨go14, (x3_2 : Int).toNat * 7 + 5, none⟩ = some (.int .u64 ((rd_T43 x124004_2 x3_2).f1.f4)) := hcc14 5 _ rfl
                have hx14_6 : wr.cell? ⟨go14, (x3_2 : Int).toNat * 7 + 6, none⟩ = some (.int .u64 ((rd_T43 x124004_2 x3_2).f1.f5)) := hcc14 6 _ rfl
                have hf14_0 : wr.frozen? ⟨go14, (x3_2 : Int).toNat * 7, none⟩ = false := hfr14 0
                have hf14_1 : wr.frozen? ⟨go14, (x3_2 : Int).toNat * 7 + 1, none⟩ = false := hfr14 1
                have hf14_2 : wr.frozen? ⟨go14, (x3_2 : Int).toNat * 7 + 2, none⟩ = false := hfr14 2
                have hf14_3 : wr.frozen? ⟨go14, (x3_2 : Int).toNat * 7 + 3, none⟩ = false := hfr14 3
                have hf14_4 : wr.frozen? ⟨go14, (x3_2 : Int).toNat * 7 + 4, none⟩ = false := hfr14 4
                have hf14_5 : wr.frozen? ⟨go14, (x3_2 : Int).toNat * 7 + 5, none⟩ = false := hfr14 5
                have hf14_6 : wr.frozen? ⟨go14, (x3_2 : Int).toNat * 7 + 6, none⟩ = false := hfr14 6
                clear hcl14 hcc14 hfr14 hM14
                replace p14 := eq_true p14
                replace q14 := eq_true q14
                have HX16 := Aside0.mk (show Kd.R k43 43 wr w0.heap.size (fun k_ => ((P0_3_ k_ ∨ P0_4_ k_) ∨ w.heap.size ≤ k_)) (.slice (some ⟨go14, 0, none⟩) x124004_2.length co3) x124004_2 from (by (with_reducible repeat (first | apply Kd.R_alloc | apply Kd.R_drewN | apply Kd.R_drew)); exact HO_124004.out))
                obtain ⟨ce16, hcl16, hM16, hcc16, hfr16⟩ := Kd.R_elem HX16.out z43 (x3_2 : Int) (of_decide_eq_true (by first | (with_reducible assumption) | assumption)) (by have h_ : (x3_2 : Int) < ((x124004_2.length : Int) : Int) := of_decide_eq_true (by first | (with_reducible assumption) | assumption); first | exact h_ | (have e_ := (Kd.R_reads' HO_124004.out).1; omega) | simpa using h_)
                obtain rfl := k43_openM hM16
                have HP16 := Kd.R_seg HX16.out (x3_2 : Int) (of_decide_eq_true (by first | (with_reducible assumption) | assumption)) (by have h_ : (x3_2 : Int) < ((x124004_2.length : Int) : Int) := of_decide_eq_true (by first | (with_reducible assumption) | assumption); first | exact h_ | (have e_ := (Kd.R_reads' HO_124004.out).1; omega) | simpa using h_) (seg := [.int .i64 (-5)]) (j := 0) hcl16 hcc16 (show 1 ≤ 7 from by decide) (x' := (⟨(-5), (⟨(rd_T43 x124004_2 x3_2).f1.f0, (rd_T43 x124004_2 x3_2).f1.f1, (rd_T43 x124004_2 x3_2).f1.f2, (rd_T43 x124004_2 x3_2).f1.f3, (rd_T43 x124004_2 x3_2).f1.f4, (rd_T43 x124004_2 x3_2).f1.f5⟩ : S36)⟩ : S43)) (k43_mkM _ _ _ (⟨(-5), (⟨(rd_T43 x124004_2 x3_2).f1.f0, (rd_T43 x124004_2 x3_2).f1.f1, (rd_T43 x124004_2 x3_2).f1.f2, (rd_T43 x124004_2 x3_2).f1.f3, (rd_T43 x124004_2 x3_2).f1.f4, (rd_T43 x124004_2 x3_2).f1.f5⟩ : S36)⟩ : S43) ) (fun _ hk => hk)
                have hx16_0 := hcc16 0 _ rfl
                (try simp only [show (k43).sz = 7 from rfl, Nat.mul_one, Nat.add_zero] at hx16_0)
                have hf16_0 := hfr16 0
                (try simp only [show (k43).sz = 7 from rfl, Nat.mul_one, Nat.add_zero] at hf16_0)
                clear hcl16 hcc16 hfr16 hM16
                go_wp2_with (first | ((with_reducible refine gate_store (t := 3) (p := 27) rfl ?_); refine store_event (t := 3) (p := 27) (v := ?vo_w17) (w1 := (wr.setCell ⟨go14, (x3_2 : Int).toNat * 7, none⟩ (.int .i64 (-5)))) ?hg ?ho ?hn ?hr ?_; (case ho => rfl); (case hg => rfl); (case hn => rfl); (case hr => first | (go_simp; done) | (go_simp; rfl)); intro w17 hw; have hg : wr.grownBy w17 (some go14) := (by rw [hw]; exact HP16.2); have hp_ : Kd.R k43 43 w17 w0.heap.size (fun k_ => ((P0_3_ k_ ∨ P0_4_ k_) ∨ w.heap.size ≤ k_)) (.slice (some ⟨go14, 0, none⟩) x124004_2.length co3) y125 := (by rw [hw, Ny125.out]; exact HP16.1); clear HP16; have n0_ := Aside0.mk (Kd.R_over' (v := (.slice (some ⟨go14, 0, none⟩) x124004_2.length co3)) (by (with_reducible repeat (first | apply Kd.R_alloc | apply Kd.R_drewN | apply Kd.R_drew)); exact HO_124003.out) (Kd.R_typed HO_124004.out) (by decide) hg); have n1_ := Aside0.mk (hp_); have n2_ := Aside0.mk (blk_grown (g := gb123) (o := .cells #[.int .i64 a0_0, .int .i64 a0_1, .int .u64 a0_2, .slice Ao2 x124003_1.length co2, .slice (some ⟨go14, 0, none⟩) x124004_2.length co3] 31 (0, 0)) (by (with_reducible repeat (first | refine blk_drewN ?_ _ | refine blk_drew ?_ | refine blk_alloc ?_ _)); exact BK123.out) hg (Kd.R_ne HO_124004.out BK123.out (by decide))); have n3_ := Aside0.mk ((by rw [hw]; exact below_set (HB.out) GB14.out : Below w0.heap.size w0 w17)); have n4_ := Aside0.mk (Kept.of_grown (S := (fun k_ => P0_3_ k_ ∨ P0_4_ k_)) hg (by repeat (first | (with_reducible first | exact HK.out | apply Kept.alloc | apply Kept.drewN | apply Kept.drew | refine Kept.setCell ?_ (.inr GW123.out) _) | exact HK.out)) (fun k_ e_ => (HO_124004.out.1 k_ e_))); clear HO_124003; clear HO_124004; clear BK123; clear HB; clear HK; have HO_124003 := n0_; have HO_124004 := n1_; have BK123 := n2_; have HB := n3_; have HK := n4_; clear n0_ n1_ n2_ n3_ n4_; clear hg hw hp_))
                (try simp only [← hl124004_2])
                go_roundg k2
                case measure => have := HK1.out; have := HK2.out; omega
                case rel => exact ⟨(wrap64 (x3_2 + 1)), (y125), (by first | rfl | (simp; done) | (simp [*]; done)), H', ⟨by have := HK1.out; have := HK2.out; omega⟩, ⟨by (try simp only [hl124003_1]); (try simp only [hl124004_2]); (with_reducible repeat (first | apply Kd.R_alloc | apply Kd.R_drewN | apply Kd.R_drew)); exact HO_124003.out⟩, ⟨by (try simp only [hl124003_1]); (try simp only [hl124004_2]); (with_reducible repeat (first | apply Kd.R_alloc | apply Kd.R_drewN | apply Kd.R_drew)); exact HO_124004.out⟩, ⟨by (try simp only [hl124003_1]); (try simp only [hl124004_2]); (with_reducible repeat (first | refine blk_drewN ?_ _ | refine blk_drew ?_ | refine blk_alloc ?_ _)); exact BK123.out⟩, ⟨by repeat (first | (with_reducible first | exact HK.out | apply Kept.alloc | apply Kept.drewN | apply Kept.drew | refine Kept.setCell ?_ (.inr GW123.out) _) | exact HK.out)⟩, ⟨by repeat (first | (with_reducible first | exact HB.out | apply below_alloc | apply pw_below_drewN | apply below_drew1 | refine below_set ?_ GE123.out) | exact HB.out)⟩⟩
              · rw [if_neg c13] at H
                exact absurd H (by simp)
            · rw [if_neg c12] at H
              have c12b0 : decide (x3_2 < (x124004_2.length : Int)) = false := decide_eq_false c12
              clear c12
              simp only [Option.some.injEq, Prod.mk.injEq] at H
              obtain ⟨rfl, rfl⟩ := H
              have hcz18_0 : wr.cell? ⟨gb123, 0, none⟩ = some (.int .i64 a0_0) := (blk_cell BK123.out 0).trans rfl
              have hcz18_1 : wr.cell? ⟨gb123, 1, none⟩ = some (.int .i64 a0_1) := (blk_cell BK123.out 1).trans rfl
              have hcz18_2 : wr.cell? ⟨gb123, 2, none⟩ = some (.int .u64 a0_2) := (blk_cell BK123.out 2).trans rfl
              have hcz18_3 : wr.cell? ⟨gb123, 3, none⟩ = some (.slice Ao2 x124003_1.length co2) := (blk_cell BK123.out 3).trans rfl
              have hcz18_4 : wr.cell? ⟨gb123, 4, none⟩ = some (.slice Ao3 x124004_2.length co3) := (blk_cell BK123.out 4).trans rfl
              have hfz18_0 := blk_frozen BK123.out 0
              have hfz18_1 := blk_frozen BK123.out 1
              have hfz18_2 := blk_frozen BK123.out 2
              have hfz18_3 := blk_frozen BK123.out 3
              have hfz18_4 := blk_frozen BK123.out 4
              go_wp2
              first | go_end0 | ((try simp only [Exit.inBlock, Exit.then]); refine bodyPost_ret (results_none rfl _ _ _) rfl ?_)
              exact ⟨by first | rfl | (simp [errW_none, errW_some] <;> rfl) | (simp [*, errW_none, errW_some] <;> rfl), (by first | exact (by (with_reducible repeat (first | apply Kd.R_alloc | apply Kd.R_drewN | apply Kd.R_drew)); exact HO_124003.out) | (simp only [hl124003_1, hl124004_2]; exact (by (with_reducible repeat (first | apply Kd.R_alloc | apply Kd.R_drewN | apply Kd.R_drew)); exact HO_124003.out))), (by first | exact (by (with_reducible repeat (first | apply Kd.R_alloc | apply Kd.R_drewN | apply Kd.R_drew)); exact HO_124004.out) | (simp only [hl124003_1, hl124004_2]; exact (by (with_reducible repeat (first | apply Kd.R_alloc | apply Kd.R_drewN | apply Kd.R_drew)); exact HO_124004.out))), by repeat (first | (with_reducible first | exact HB.out | apply below_alloc | apply pw_below_drewN | apply below_drew1 | refine below_set ?_ GE123.out) | exact HB.out), by repeat (first | (with_reducible first | exact HK.out | apply Kept.alloc | apply Kept.drewN | apply Kept.drew | refine Kept.setCell ?_ (.inr GW123.out) _) | exact HK.out)⟩

end Go.Proofs.Ytppldgbgdgeegaa.G

/- Contracts typed by hand: plain: merges, the same, spoiling -/
namespace Go.Proofs.Ytppldgbgdgeegaa.G
open Go.RowKit Go.Proofs.YtppldgbgdgeegaaW.PrintWords Go.Proofs.YtppldgbgdgeegaaW.PrintLast Go.Proofs.YtppldgbgdgeegaaW.PrintMore
attribute [local go_sem] max2_int min2_int max_two min_two max_three min_three max_four min_four
set_option linter.unusedVariables false
set_option linter.unusedSimpArgs false

/-! plain: merges, the same, spoiling -/
theorem wrap_up (i : Nat) (h : i ≤ 8000000) : wrap64 ((i : Int) + 1) = ((i + 1 : Nat) : Int) := by unfold wrap64; omega
theorem rd43_at {l : List S43} {i : Nat} (h : i < l.length) : rd_T43 l (i : Int) = l[i] := by unfold rd_T43; simp [h]
theorem rd45_at {l : List S45} {i : Nat} (h : i < l.length) : rd_T45 l (i : Int) = l[i] := by unfold rd_T45; simp [h]
theorem among_l (l : List S43) (a b : Int) (hl : l.length ≤ 3145728) : ∀ (d i k : Nat), i + d = l.length → d < k → moraineref15_among.l0 k l (i : Int) a b = some (!decide (((l.drop i).map plC).count (a, b) = 0)) := by
  intro d
  induction d with
  | zero =>
    intro i k hi hk
    obtain ⟨k, rfl⟩ : ∃ k', k = k' + 1 := ⟨k - 1, by omega⟩
    unfold moraineref15_among.l0
    rw [if_neg (by omega), List.drop_of_length_le (by omega)]
    rfl
  | succ d ih =>
    intro i k hi hk
    obtain ⟨k, rfl⟩ : ∃ k', k = k' + 1 := ⟨k - 1, by omega⟩
    have h : i < l.length := by omega
    unfold moraineref15_among.l0
    rw [if_pos (by omega), if_pos (by omega), rd43_at h, wrap_up i (by omega), ih (i + 1) k (by omega) (by omega), List.drop_eq_getElem_cons h, List.map_cons, List.count_cons]
    generalize l[i] = x
    by_cases h1 : x.f0 = a
    · by_cases h2 : x.f1.f0 = b
      · have e : (plC x == (a, b)) = true := by simp [plC, h1, h2]
        rw [if_pos h1, if_pos h2, if_pos e]
        simp
      · have e : (plC x == (a, b)) = false := by simp [plC, h2]
        rw [if_pos h1, if_neg h2, e]
        simp
    · have e : (plC x == (a, b)) = false := by simp [plC, h1]
      rw [if_neg h1, e]
      simp
theorem among_eq (l : List S43) (a b : Int) (hl : l.length ≤ 3145728) (k : Nat) (hk : 3145729 ≤ k) : moraineref15_among.f k l a b = some (!decide ((l.map plC).count (a, b) = 0)) := by
  have h := among_l l a b hl l.length 0 k (by omega) (by omega)
  rw [List.drop_zero] at h
  exact h
theorem named_l (l : List S45) (a b c : Int) (s t : ByteArray) (u v : Int) (hl : l.length ≤ 3145728) : ∀ (d i k : Nat), i + d = l.length → d < k → moraineref15_named.l0 k l (i : Int) a b c s t u v = some (!decide (((l.drop i).map plG).count (a, b) = 0)) := by
  intro d
  induction d with
  | zero =>
    intro i k hi hk
    obtain ⟨k, rfl⟩ : ∃ k', k = k' + 1 := ⟨k - 1, by omega⟩
    unfold moraineref15_named.l0
    rw [if_neg (by omega), List.drop_of_length_le (by omega)]
    rfl
  | succ d ih =>
    intro i k hi hk
    obtain ⟨k, rfl⟩ : ∃ k', k = k' + 1 := ⟨k - 1, by omega⟩
    have h : i < l.length := by omega
    unfold moraineref15_named.l0
    rw [if_pos (by omega), if_pos (by omega), rd45_at h, wrap_up i (by omega), ih (i + 1) k (by omega) (by omega), List.drop_eq_getElem_cons h, List.map_cons, List.count_cons]
    generalize l[i] = x
    by_cases h1 : x.f0 = a
    · by_cases h2 : x.f1 = b
      · have e : (plG x == (a, b)) = true := by simp [plG, h1, h2]
        rw [if_pos h1, if_pos h2, if_pos e]
        simp
      · have e : (plG x == (a, b)) = false := by simp [plG, h2]
        rw [if_pos h1, if_neg h2, e]
        simp
    · have e : (plG x == (a, b)) = false := by simp [plG, h1]
      rw [if_neg h1, e]
      simp
theorem named_eq (l : List S45) (a b c : Int) (s t : ByteArray) (u v : Int) (hl : l.length ≤ 3145728) (k : Nat) (hk : 3145729 ≤ k) : moraineref15_named.f k l a b c s t u v = some (!decide ((l.map plG).count (a, b) = 0)) := by
  have h := named_l l a b c s t u v hl l.length 0 k (by omega) (by omega)
  rw [List.drop_zero] at h
  exact h
section
variable (a0 a1 a2 : Int) (aG : List S45) (aC : List S43) (b0 b1 b2 : Int) (bG : List S45) (bC : List S43) (n0 n1 n2 : Int)
theorem merge_l1 (hl : aC.length ≤ 3145728 ∧ bG.length ≤ 3145728 ∧ bC.length ≤ 3145728) (g : List S45) : ∀ (d i k : Nat) (o : List S43), i + d = aC.length → o.length + d ≤ 4000000 → 4000000 + d < k →
    moraineref15_Merge.l1 k (i : Int) a0 a1 a2 aG aC b0 b1 b2 bG bC n0 n1 n2 g o = some (n0, n1, n2, g, (o ++ (aC.drop i).filter fun c => decide ((bG.map plG).count (plC c) = 0)) ++ bC) := by
  intro d
  induction d with
  | zero =>
    intro i k o hi ho hk
    obtain ⟨k, rfl⟩ : ∃ k', k = k' + 1 := ⟨k - 1, by omega⟩
    unfold moraineref15_Merge.l1
    rw [if_neg (by omega), if_pos (by omega), List.drop_of_length_le (by omega), List.filter_nil, List.append_nil]
  | succ d ih =>
    intro i k o hi ho hk
    obtain ⟨k, rfl⟩ : ∃ k', k = k' + 1 := ⟨k - 1, by omega⟩
    have h : i < aC.length := by omega
    unfold moraineref15_Merge.l1
    rw [if_pos (by omega), if_pos (by omega), rd43_at h, named_eq _ _ _ _ _ _ _ _ hl.2.1 k (by omega), Option.bind_some, wrap_up i (by omega), List.drop_eq_getElem_cons h]
    generalize aC[i] = x
    by_cases hc : (bG.map plG).count (x.f0, x.f1.f0) = 0
    · rw [if_neg (by simp [hc]), if_pos (by omega), ih (i + 1) k _ (by omega) (by rw [List.length_append]; simp only [List.length_cons, List.length_nil]; omega) (by omega), List.filter_cons_of_pos (p := fun c => decide ((bG.map plG).count (plC c) = 0)) (a := x) (decide_eq_true hc)]
      (first | (simp only [List.append_assoc, List.cons_append, List.nil_append]; done) | (simp only [List.append_assoc, List.cons_append, List.nil_append]; rfl))
    · rw [if_pos (by simp [hc]), ih (i + 1) k _ (by omega) (by omega) (by omega), List.filter_cons_of_neg (p := fun c => decide ((bG.map plG).count (plC c) = 0)) (a := x) (fun e => hc (of_decide_eq_true e))]
theorem merge_l0 (hl : aC.length ≤ 3145728 ∧ bG.length ≤ 3145728 ∧ bC.length ≤ 3145728) : ∀ (d i k : Nat) (g : List S45), i + d = bG.length → g.length + d ≤ 8000000 → 9000000 + d < k →
    moraineref15_Merge.l0 k (i : Int) a0 a1 a2 aG aC b0 b1 b2 bG bC n0 n1 n2 g = some (n0, n1, n2, (g ++ (bG.drop i).filter fun g => decide ((aC.map plC).count (plG g) = 0)), mC aC bC bG) := by
  intro d
  induction d with
  | zero =>
    intro i k g hi hg hk
    obtain ⟨k, rfl⟩ : ∃ k', k = k' + 1 := ⟨k - 1, by omega⟩
    unfold moraineref15_Merge.l0
    have h := merge_l1 a0 a1 a2 aG aC b0 b1 b2 bG bC n0 n1 n2 hl g aC.length 0 k [] (by omega) (by simp only [List.length_nil]; omega) (by omega)
    rw [List.drop_zero, List.nil_append] at h
    rw [if_neg (by omega), List.drop_of_length_le (by omega), List.filter_nil, List.append_nil]
    exact h
  | succ d ih =>
    intro i k g hi hg hk
    obtain ⟨k, rfl⟩ : ∃ k', k = k' + 1 := ⟨k - 1, by omega⟩
    have h : i < bG.length := by omega
    unfold moraineref15_Merge.l0
    rw [if_pos (by omega), if_pos (by omega), rd45_at h, among_eq _ _ _ hl.1 k (by omega), Option.bind_some, wrap_up i (by omega), List.drop_eq_getElem_cons h]
    generalize bG[i] = x
    by_cases hc : (aC.map plC).count (x.f0, x.f1) = 0
    · rw [if_neg (by simp [hc]), if_pos (by omega), ih (i + 1) k _ (by omega) (by rw [List.length_append]; simp only [List.length_cons, List.length_nil]; omega) (by omega), List.filter_cons_of_pos (p := fun c => decide ((aC.map plC).count (plG c) = 0)) (a := x) (decide_eq_true hc)]
      (first | (simp only [List.append_assoc, List.cons_append, List.nil_append]; done) | (simp only [List.append_assoc, List.cons_append, List.nil_append]; rfl))
    · rw [if_pos (by simp [hc]), ih (i + 1) k _ (by omega) (by omega) (by omega), List.filter_cons_of_neg (p := fun c => decide ((aC.map plC).count (plG c) = 0)) (a := x) (fun e => hc (of_decide_eq_true e))]
theorem merge_eq (hl : aG.length ≤ 3145728 ∧ aC.length ≤ 3145728 ∧ bG.length ≤ 3145728 ∧ bC.length ≤ 3145728) (k : Nat) (hk : 13000000 ≤ k) :
    moraineref15_Merge.f k a0 a1 a2 aG aC b0 b1 b2 bG bC = some (mN a0 b0, mN a1 b1, mN a2 b2, mG aG aC bG, mC aC bC bG) := by
  obtain ⟨k, rfl⟩ : ∃ k', k = k' + 3 := ⟨k - 3, by omega⟩
  have H : ∀ n0 n1 n2 : Int, moraineref15_Merge.j2 (k + 1) a0 a1 a2 aG aC b0 b1 b2 bG bC n0 n1 n2 aG = some (n0, n1, n2, mG aG aC bG, mC aC bC bG) := by
    intro n0 n1 n2
    unfold moraineref15_Merge.j2
    have h := merge_l0 a0 a1 a2 aG aC b0 b1 b2 bG bC n0 n1 n2 hl.2 bG.length 0 k aG (by omega) (by omega) (by omega)
    rw [List.drop_zero] at h
    exact h
  unfold moraineref15_Merge.f
  rw [Option.bind_some, if_pos (by simp only [List.length_nil]; omega), Option.bind_some, List.nil_append]
  unfold moraineref15_Merge.j0
  unfold moraineref15_Merge.j1
  simp only [H, mN]
  by_cases h0 : b0 = 0 <;> by_cases h1 : b1 = 0 <;> by_cases h2 : b2 = 0 <;> simp [h0, h1, h2]
end
theorem same_l1 (a0 a1 a2 : Int) (g : List S45) (c : List S43) (hl : c.length ≤ 8000000) : ∀ (d i k : Nat), i + d = c.length → d < k → morainelaw15_same.l1 k (i : Int) a0 a1 a2 g c a0 a1 a2 g c = some true := by
  intro d
  induction d with
  | zero =>
    intro i k hi hk
    obtain ⟨k, rfl⟩ : ∃ k', k = k' + 1 := ⟨k - 1, by omega⟩
    unfold morainelaw15_same.l1
    rw [if_neg (by omega)]
  | succ d ih =>
    intro i k hi hk
    obtain ⟨k, rfl⟩ : ∃ k', k = k' + 1 := ⟨k - 1, by omega⟩
    unfold morainelaw15_same.l1
    rw [if_pos (by omega), if_pos (by omega), if_pos (by omega), if_neg (by simp), wrap_up i (by omega), ih (i + 1) k (by omega) (by omega)]
theorem same_l0 (a0 a1 a2 : Int) (g : List S45) (c : List S43) (hg : g.length ≤ 8000000) (hl : c.length ≤ 8000000) : ∀ (d i k : Nat), i + d = g.length → 8000001 + d < k → morainelaw15_same.l0 k (i : Int) a0 a1 a2 g c a0 a1 a2 g c = some true := by
  intro d
  induction d with
  | zero =>
    intro i k hi hk
    obtain ⟨k, rfl⟩ : ∃ k', k = k' + 1 := ⟨k - 1, by omega⟩
    unfold morainelaw15_same.l0
    rw [if_neg (by omega)]
    exact same_l1 a0 a1 a2 g c hl c.length 0 k (by omega) (by omega)
  | succ d ih =>
    intro i k hi hk
    obtain ⟨k, rfl⟩ : ∃ k', k = k' + 1 := ⟨k - 1, by omega⟩
    unfold morainelaw15_same.l0
    rw [if_pos (by omega), if_pos (by omega), if_pos (by omega), if_neg (by simp), wrap_up i (by omega), ih (i + 1) k (by omega) (by omega)]
theorem same_eq (a0 a1 a2 : Int) (g : List S45) (c : List S43) (hg : g.length ≤ 8000000) (hl : c.length ≤ 8000000) (k : Nat) (hk : 16000010 ≤ k) : morainelaw15_same.f k a0 a1 a2 g c a0 a1 a2 g c = some true := by
  obtain ⟨k, rfl⟩ : ∃ k', k = k' + 1 := ⟨k - 1, by omega⟩
  unfold morainelaw15_same.f
  rw [if_pos rfl, if_pos rfl, if_pos rfl, if_pos rfl]
  rw [show ((c.length : Int) != (c.length : Int)) = false from by simp, morainelaw15_same.j0, if_neg (by simp)]
  exact same_l0 a0 a1 a2 g c hg hl g.length 0 k (by omega) (by omega)
theorem spoil_l1 (a0 a1 a2 : Int) (g : List S45) : ∀ (d i k : Nat) (c : List S43), c.length ≤ 8000000 → i + d = c.length → d < k → ∃ r, morainelaw15_spoil.l1 k (i : Int) a0 a1 a2 g c = some r := by
  intro d
  induction d with
  | zero =>
    intro i k c hl hi hk
    obtain ⟨k, rfl⟩ : ∃ k', k = k' + 1 := ⟨k - 1, by omega⟩
    unfold morainelaw15_spoil.l1
    rw [if_neg (by omega)]
    exact ⟨_, rfl⟩
  | succ d ih =>
    intro i k c hl hi hk
    obtain ⟨k, rfl⟩ : ∃ k', k = k' + 1 := ⟨k - 1, by omega⟩
    unfold morainelaw15_spoil.l1
    rw [if_pos (by omega), if_pos (by omega), wrap_up i (by omega)]
    exact ih (i + 1) k _ (by rw [List.length_set]; exact hl) (by rw [List.length_set]; omega) (by omega)
theorem spoil_l0 (a0 a1 a2 : Int) (c : List S43) (hc : c.length ≤ 8000000) : ∀ (d i k : Nat) (g : List S45), g.length ≤ 8000000 → i + d = g.length → 8000001 + d < k → ∃ r, morainelaw15_spoil.l0 k (i : Int) a0 a1 a2 g c = some r := by
  intro d
  induction d with
  | zero =>
    intro i k g hl hi hk
    obtain ⟨k, rfl⟩ : ∃ k', k = k' + 1 := ⟨k - 1, by omega⟩
    unfold morainelaw15_spoil.l0
    rw [if_neg (by omega)]
    exact spoil_l1 a0 a1 a2 g c.length 0 k c hc (by omega) (by omega)
  | succ d ih =>
    intro i k g hl hi hk
    obtain ⟨k, rfl⟩ : ∃ k', k = k' + 1 := ⟨k - 1, by omega⟩
    unfold morainelaw15_spoil.l0
    rw [if_pos (by omega), if_pos (by omega), wrap_up i (by omega)]
    exact ih (i + 1) k _ (by rw [List.length_set]; exact hl) (by rw [List.length_set]; omega) (by omega)
theorem spoil_eq (a0 a1 a2 : Int) (g : List S45) (c : List S43) (hg : g.length ≤ 8000000) (hl : c.length ≤ 8000000) : ∃ r1 r2, morainelaw15_spoil.f 16000010 a0 a1 a2 g c = some (r1, r2) := by
  obtain ⟨⟨r1, r2⟩, h⟩ := spoil_l0 a0 a1 a2 c hl g.length 0 16000010 g hg (by omega) (by omega)
  exact ⟨r1, r2, h⟩
theorem lent_eq (a0 a1 a2 : Int) (g : List S45) (c : List S43) (hg : g.length ≤ 8000000) (hl : c.length ≤ 8000000) : morainelaw15_lent.f a0 a1 a2 g c = some (a0, a1, a2, g, c) := by
  unfold morainelaw15_lent.f
  rw [Option.bind_some, if_pos (by simp only [List.length_nil]; omega), Option.bind_some, if_pos (by simp only [List.length_nil]; omega), List.nil_append, List.nil_append]
theorem mG_len (aG : List S45) (aC : List S43) (bG : List S45) : (mG aG aC bG).length ≤ aG.length + bG.length := by
  unfold mG
  rw [List.length_append]
  have h : (bG.filter fun g => decide ((aC.map plC).count (plG g) = 0)).length ≤ bG.length := List.length_filter_le _ _
  omega
theorem mC_len (aC bC : List S43) (bG : List S45) : (mC aC bC bG).length ≤ aC.length + bC.length := by
  unfold mC
  rw [List.length_append]
  have h : (aC.filter fun c => decide ((bG.map plG).count (plC c) = 0)).length ≤ aC.length := List.length_filter_le _ _
  omega

end Go.Proofs.Ytppldgbgdgeegaa.G
