/- Contracts typed by hand: arrays of 32 registers as blocks of cells; what they come to -/
import Derived.Test.YtnapjjjomodmeaaDoorProg
import Derived.Below
import Derived.Deep.Draws
import Derived.Deep.AppendLies
import Derived.Maps.AppendAt
import Derived.OwnWalk
import Derived.Laws.BytesArg
import Derived.Laws.MakeOwn
import Derived.Laws.OwnMore
import Derived.Deep.OwnRows
import Derived.Tactics
import Derived.Lib.ConvBytes
import Derived.Laws.Slices
import Derived.WalkKit
import Derived.KernelRfl
import Derived.RowKit3
import Derived.Deep.LoopGhost
import Derived.Deep.QuietTactic
import Derived.BigQuiet
import Derived.WideLaws
import Derived.Deep.DeepCutAuto
import Derived.Deep.CutBlock
import Derived.Deep.RegionHeld3
import Derived.Laws.Rows
import Derived.Lib.AppendStr
import Derived.ArgAppend
import Derived.Laws.IdiomCopy
import Derived.OrdersHeld
import Derived.Laws.BitsLemmas
import Derived.RowKit
import Derived.Test.YtnapjjjomodmeaaDoorWWords
import Derived.Test.YtnapjjjomodmeaaDoorWLast
import Derived.Test.YtnapjjjomodmeaaDoorWTab
import Derived.Test.YtnapjjjomodmeaaDoorWFour
import Derived.Test.YtnapjjjomodmeaaDoorWQPut
import Derived.Test.YtnapjjjomodmeaaDoorWApart
import Derived.Test.YtnapjjjomodmeaaDoorWArr
import Derived.Test.YtnapjjjomodmeaaDoorWZeros
import Derived.Test.YtnapjjjomodmeaaDoorWFoot
import Derived.Test.YtnapjjjomodmeaaDoorWKept
import Derived.Test.YtnapjjjomodmeaaDoorWShare
import Derived.Test.YtnapjjjomodmeaaDoorWN
import Derived.Test.YtnapjjjomodmeaaDoorWFootNe
import Derived.Test.YtnapjjjomodmeaaDoorWAt
import Derived.Test.YtnapjjjomodmeaaDoorWEqStruct
import Derived.Test.YtnapjjjomodmeaaDoorWRepsOne
import Derived.Test.YtnapjjjomodmeaaDoorWInv
import Derived.Test.YtnapjjjomodmeaaDoorWInvWords
import Derived.Test.YtnapjjjomodmeaaDoorWGuard
import Derived.Test.YtnapjjjomodmeaaDoorWNEv
import Derived.Test.YtnapjjjomodmeaaDoorWMore
import Derived.Test.YtnapjjjomodmeaaDoorPureCrc
import Derived.Deep.RegionHeld2
import Derived.Lib.BufferMore
import Derived.Laws.BitsAllLaws
namespace Go.Proofs.YtnapjjjomodmeaaDoor.G
open Go.RowKit Go.Proofs.YtnapjjjomodmeaaDoorW.PrintWords Go.Proofs.YtnapjjjomodmeaaDoorW.PrintLast Go.Proofs.YtnapjjjomodmeaaDoorW.PrintMore
attribute [local go_sem] max2_int min2_int max_two min_two max_three min_three max_four min_four
set_option linter.unusedVariables false
set_option linter.unusedSimpArgs false

/-! arrays of 32 registers as blocks of cells; what they come to -/
def er (x : Nat) : Value := .int .u32 (x : Int)
def ac (t : List Nat) : Array Value := (t.map er).toArray
theorem ac_size (t : List Nat) : (ac t).size = t.length := by simp [ac]
theorem ac_get (t : List Nat) (i : Nat) (h : i < t.length) : (ac t)[i]? = some (er (t.getD i 0)) := by
  unfold ac
  rw [List.getElem?_toArray, List.getElem?_map, List.getElem?_eq_getElem h, List.getD_eq_getElem?_getD, List.getElem?_eq_getElem h]
  rfl
theorem ac_one (t : List Nat) : ∀ v ∈ t.map er, v.oneCell' = true := by
  intro v hv
  obtain ⟨x, _, rfl⟩ := List.mem_map.1 hv
  rfl
theorem ac_set (t : List Nat) (i x : Nat) : (ac t).setIfInBounds i (er x) = ac (t.set i x) := by
  unfold ac
  rw [List.setIfInBounds_toArray, List.map_set]
/-- block b holds the list as an array's cells -/
structure ArrAt (w : World) (b : Nat) (T : TypeId) (t : List Nat) : Prop where
  heap : w.heap[b]? = some (.cells (ac t) T (0, 0))
theorem ArrAt.lt {w : World} {b : Nat} {T : TypeId} {t : List Nat} (h : ArrAt w b T t) : b < w.heap.size := (Array.getElem?_eq_some_iff.1 h.heap).1
theorem ArrAt.cell {w : World} {b : Nat} {T : TypeId} {t : List Nat} (h : ArrAt w b T t) (i : Nat) (hi : i < t.length) : w.cell? ⟨b, i, none⟩ = some (.int .u32 ((t.getD i 0 : Nat) : Int)) := by
  rw [cell_of_row w b i _ T _ h.heap]
  exact ac_get t i hi
theorem ArrAt.range {w : World} {b : Nat} {T : TypeId} {t : List Nat} (h : ArrAt w b T t) : w.rangeAt b 0 (t.map er) := fun j v hv => by
  have hl : j < t.length := by
    have := (List.getElem?_eq_some_iff.1 hv).1
    rwa [List.length_map] at this
  rw [Nat.zero_add, h.cell j hl]
  have := ac_get t j hl
  unfold ac at this
  rw [List.getElem?_toArray] at this
  exact this.symm.trans hv
theorem ArrAt.frozen {w : World} {b : Nat} {T : TypeId} {t : List Nat} (h : ArrAt w b T t) (i : Nat) : w.frozen? ⟨b, i, none⟩ = false := blk_frozen h.heap _
theorem ArrAt.there {w : World} {b : Nat} {T : TypeId} {t : List Nat} (h : ArrAt w b T t) {n : Nat} (hn : t.length = n) : w.there b 0 n := fun j hj => by
  rw [Nat.zero_add]
  exact ⟨by rw [h.cell j (by omega)]; rfl, h.frozen j⟩
theorem ArrAt.below {w w1 : World} {b : Nat} {T : TypeId} {t : List Nat} (h : ArrAt w b T t) (hb : Below w.heap.size w w1) : ArrAt w1 b T t := ⟨(hb.block b h.lt).trans h.heap⟩
theorem ArrAt.set {w : World} {b : Nat} {T : TypeId} {t : List Nat} (h : ArrAt w b T t) (i x : Nat) : ArrAt (w.setCell ⟨b, i, none⟩ (.int .u32 (x : Int))) b T (t.set i x) := ⟨by
  rw [Lib.heap_setCell_same h.heap]
  show some (Obj.cells ((ac t).setIfInBounds i (er x)) T (0, 0)) = _
  rw [ac_set]⟩
theorem ArrAt.setc {w : World} {b : Nat} {T : TypeId} {t : List Nat} (h : ArrAt w b T t) (s : List Nat) (hs : s.length = t.length) : ArrAt (w.setCells b 0 (s.map er)) b T s := ⟨by
  obtain ⟨cur', h1, h2, h3⟩ := setCells_row (s.map er) 0 w _ h.heap (by rw [List.length_map, ac_size]; omega)
  rw [h1]
  have : cur' = ac s := by
    apply Array.toList_inj.1
    rw [h3, List.take_zero, List.nil_append, List.drop_eq_nil_of_le (by rw [Array.length_toList, ac_size, List.length_map]; omega), List.append_nil]
    rfl
  rw [this]⟩
theorem ArrAt.other {w : World} {b b' : Nat} {T : TypeId} {t : List Nat} (h : ArrAt w b T t) (hne : b ≠ b') (i : Nat) (v : Value) : ArrAt (w.setCell ⟨b', i, none⟩ v) b T t := ⟨(Below.heap_setCell _ _ _ _ hne).trans h.heap⟩
theorem ArrAt.fresh (w : World) (T : TypeId) (t : List Nat) : ArrAt (w.alloc (.cells (ac t) T)) w.heap.size T t := ⟨by show (w.heap.push _)[w.heap.size]? = _; simp⟩
theorem ArrAt.alloc {w : World} {b : Nat} {T : TypeId} {t : List Nat} (h : ArrAt w b T t) (o : Obj) : ArrAt (w.alloc o) b T t := ⟨(Below.heap_alloc w o b h.lt).trans h.heap⟩
theorem ArrAt.drew {w : World} {b : Nat} {T : TypeId} {t : List Nat} (h : ArrAt w b T t) : ArrAt w.drew b T t := ⟨h.heap⟩
theorem belowSetCells {B : Nat} {a : World} (b : Nat) (hb : B ≤ b) : ∀ (vs : List Value) (o : Nat) (w : World), Below B a w → Below B a (w.setCells b o vs)
  | [], _, _, h => h
  | v :: r, o, w, h => by
    rw [World.setCells]
    exact belowSetCells b hb r (o + 1) _ (h.setCell hb v)
/-- a list of 32, filled up to a place -/
def fill (l : List Nat) (k : Nat) : List Nat := l.take k ++ List.replicate (32 - k) 0
theorem fill_len {l : List Nat} (h : l.length = 32) {k : Nat} (hk : k ≤ 32) : (fill l k).length = 32 := by
  simp [fill, h]; omega
theorem fill_zero (l : List Nat) : fill l 0 = List.replicate 32 0 := rfl
theorem fill_all {l : List Nat} (h : l.length = 32) : fill l 32 = l := by
  unfold fill
  rw [List.take_of_length_le (by omega), Nat.sub_self]
  simp
theorem fill_set {l : List Nat} (h : l.length = 32) {k : Nat} (hk : k < 32) : (fill l k).set k (l.getD k 0) = fill l (k + 1) := by
  unfold fill
  have hl : (l.take k).length = k := by rw [List.length_take]; omega
  rw [List.set_append_right k _ (by omega), hl, Nat.sub_self, show 32 - k = (32 - (k + 1)) + 1 by omega, List.replicate_succ, List.set_cons_zero, List.take_succ_eq_append_getElem (by omega), List.append_assoc, List.getD_eq_getElem?_getD, List.getElem?_eq_getElem (by omega)]
  rfl
structure Reg (t : List Nat) : Prop where
  len : t.length = 32
  low : ∀ i, i < 32 → t.getD i 0 < 4294967296
theorem mapTo_lt {t : List Nat} (h : Reg t) (r : Nat) : ∀ i, i ≤ 32 → mapTo t i r < 4294967296
  | 0, _ => by simp [mapTo]
  | i + 1, hi => by
    simp only [mapTo]
    refine xor_lt (mapTo_lt h r i (by omega)) ?_
    split
    · exact h.low i (by omega)
    · omega
theorem reg_lin {t : List Nat} {m : Nat} (h : Lin t m) : Reg t := ⟨h.1, fun i hi => by
  rw [h.2 i hi]
  refine crcN_lt m ?_
  have : 2 ^ i < 2 ^ 32 := Nat.pow_lt_pow_right (by omega) hi
  omega⟩
theorem bit_on {r k : Nat} (h : r / 2 ^ k % 2 = 1) : r.testBit k = true := by rw [Nat.testBit_eq_decide_div_mod_eq, h]; rfl
theorem bit_off {r k : Nat} (h : ¬ r / 2 ^ k % 2 = 1) : r.testBit k = false := by rw [Nat.testBit_eq_decide_div_mod_eq]; exact decide_eq_false h
theorem shr32 (f k : Nat) (hk : k ≤ 32) : shr .u32 (f : Int) (k : Int) = ((f / 2 ^ k : Nat) : Int) := by
  unfold shr
  rw [Int.toNat_natCast, Nat.min_eq_left (by show k ≤ 32; omega)]
  push_cast
  rfl
theorem and1_nat (y : Nat) (hy : y < 4294967296) : bits .and .u32 (y : Int) 1 = ((y % 2 : Nat) : Int) := by
  rw [show (1 : Int) = ((1 : Nat) : Int) by rfl, u32_and_nat y 1 hy (by omega)]
  congr 1
  exact Nat.and_two_pow_sub_one_eq_mod y 1
theorem wpList_load_arr {P : Program} {ops : Array Oper} {rest : List Oper} {op : Oper} {a : Act} {w : World} {Q : Exit → Act → World → Prop} (hgd : op.guard = none) (ty : TypeId) (x : Operand) (ho : op.op = .load ty x)
    (b : Nat) (hx : a.eval x = .pointer (some ⟨b, 0, none⟩)) {T : TypeId} {t : List Nat} (h : ArrAt w b T t) {n : Nat} {e : TypeId} (hu : P.underlying ty = some (.array n e)) (hi : (P.info? ty).map (·.size) = some 32) (hl : t.length = 32)
    (hh : wpList P ops Q rest (a.put op.dst (.agg (ac t))) w) : wpList P ops Q (op :: rest) a w :=
  wpList_load_mid hgd ty x ho b 0 hx (t.map er) _ h.range hu rfl (by rw [List.length_map, hl]; exact hi) hh
theorem wpList_store_arr {P : Program} {ops : Array Oper} {rest : List Oper} {op : Oper} {a : Act} {w : World} {Q : Exit → Act → World → Prop} (hgd : op.guard = none) (hN : op.dst = none) (ty : TypeId) (x y : Operand) (ho : op.op = .store ty x y)
    (b : Nat) (hx : a.eval x = .pointer (some ⟨b, 0, none⟩)) {T : TypeId} {t : List Nat} (h : ArrAt w b T t) (s : List Nat) (hy : a.eval y = .agg (ac s)) (hi : (P.info? ty).map (·.size) = some 32) (hl : t.length = 32) (hs : s.length = 32)
    (hh : wpList P ops Q rest a (w.setCells b 0 (s.map er))) : wpList P ops Q (op :: rest) a w :=
  wpList_store_mid hgd ty x y ho b 0 (ac s) hx hy (h.there (by rw [ac_size, hs, hl])) (by rw [ac_size, hs]; exact hi) (all_oneCell_toArray (ac_one s)) (by rw [hN]; exact hh)
def oneL : List Nat := crcP :: (List.range 31).map (2 ^ ·)
theorem oneL_len : oneL.length = 32 := rfl
theorem oneL_get (j : Nat) (h : j < 31) : oneL.getD (j + 1) 0 = 2 ^ j := by
  unfold oneL
  rw [List.getD_cons_succ, List.getD_eq_getElem?_getD, List.getElem?_map, List.getElem?_range h]
  rfl
theorem oneL_lin : Lin oneL 1 := ⟨rfl, fun i hi => by
  match i, hi with
  | 0, _ => rfl
  | j + 1, hj =>
    rw [oneL_get j (by omega)]
    show 2 ^ j = crc1 (2 ^ (j + 1))
    rw [Nat.pow_succ, Nat.mul_comm, crc1_double]⟩
theorem ret_arr {P : Program} {fn : Func} {R : Ending → World → Prop} {a : Act} {w : World} {i : Nat} {ty : TypeId} {b : Nat} {T : TypeId} {t : List Nat} {n : Nat} {e : TypeId} (hres : fn.results = #[ResultVar.cell i ty]) (htmp : a.tmps.getD i undef = .pointer (some ⟨b, 0, none⟩))
    (h : ArrAt w b T t) (hu : P.underlying ty = some (.array n e)) (hi : (P.info? ty).map (·.size) = some 32) (hl : t.length = 32) (hd : a.defers = []) (hR : R (.returned (.agg (ac t))) w) : bodyPost P fn R .ret a w := by
  have hld : (loadVar ty ⟨b, 0, none⟩).run P w = .ok (.agg (ac t)) w := run_loadVar_mid w b 0 ty (t.map er) _ h.range hu rfl (by rw [List.length_map, hl]; exact hi)
  refine bodyPost_ret (v := .agg (ac t)) ?_ hd hR
  unfold results
  rw [hres]
  rw [Array.getD_eq_getD_getElem?] at htmp
  simp [htmp, asAddr, hld]

end Go.Proofs.YtnapjjjomodmeaaDoor.G
