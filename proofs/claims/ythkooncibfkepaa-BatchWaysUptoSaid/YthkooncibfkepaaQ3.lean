/- Contracts of functions and plain laws, several texts of the session put together by its program. -/
import Derived.Test.YthkooncibfkepaaProg
import Derived.Below
import Derived.Deep.Draws
import Derived.Deep.AppendLies
import Derived.Maps.AppendAt
import Derived.OwnWalk
import Derived.Laws.BytesArg
import Derived.Laws.MakeOwn
import Derived.Laws.OwnMore
import Derived.Deep.OwnRows
import Derived.Tactics
import Derived.Lib.ConvBytes
import Derived.Laws.Slices
import Derived.WalkKit
import Derived.KernelRfl
import Derived.RowKit3
import Derived.Deep.LoopGhost
import Derived.Deep.QuietTactic
import Derived.BigQuiet
import Derived.WideLaws
import Derived.Deep.DeepCutAuto
import Derived.Deep.CutBlock
import Derived.Deep.RegionHeld3
import Derived.Laws.Rows
import Derived.Lib.AppendStr
import Derived.ArgAppend
import Derived.Laws.IdiomCopy
import Derived.OrdersHeld
import Derived.Laws.BitsLemmas
import Derived.RowKit
import Derived.Test.YthkooncibfkepaaWWords
import Derived.Test.YthkooncibfkepaaWLast
import Derived.Test.YthkooncibfkepaaWTab
import Derived.Test.YthkooncibfkepaaWFour
import Derived.Test.YthkooncibfkepaaWQPut
import Derived.Test.YthkooncibfkepaaWApart
import Derived.Test.YthkooncibfkepaaWArr
import Derived.Test.YthkooncibfkepaaWZeros
import Derived.Test.YthkooncibfkepaaWFoot
import Derived.Test.YthkooncibfkepaaWKept
import Derived.Test.YthkooncibfkepaaWShare
import Derived.Test.YthkooncibfkepaaWN
import Derived.Test.YthkooncibfkepaaWFootNe
import Derived.Test.YthkooncibfkepaaWAt
import Derived.Test.YthkooncibfkepaaWEqStruct
import Derived.Test.YthkooncibfkepaaWRepsOne
import Derived.Test.YthkooncibfkepaaWInv
import Derived.Test.YthkooncibfkepaaWInvWords
import Derived.Test.YthkooncibfkepaaWGuard
import Derived.Test.YthkooncibfkepaaWNEv
import Derived.Test.YthkooncibfkepaaWMore
import Derived.Test.YthkooncibfkepaaQ2
import Derived.Test.YthkooncibfkepaaQ1
import Derived.Test.YthkooncibfkepaaQ0

/- Contracts typed by hand: the law BatchWays: built by calls and encoded at once the bytes are the same; going through them tells what reading tells -/
namespace Go.Proofs.Ythkooncibfkepaa.G
open Go.RowKit Go.Proofs.YthkooncibfkepaaW.PrintWords Go.Proofs.YthkooncibfkepaaW.PrintLast Go.Proofs.YthkooncibfkepaaW.PrintMore
attribute [local go_sem] max2_int min2_int max_two min_two max_three min_three max_four min_four
set_option linter.unusedVariables false
set_option linter.unusedSimpArgs false

/-! the law BatchWays: built by calls and encoded at once the bytes are the same; going through them tells what reading tells -/
open Go.Shelf
attribute [local go_sem] Oper.semAt_some
attribute [local go_sem high] eqA65
/-- an end that is no panic -/
def noP (Q : Exit → Act → World → Prop) : Exit → Act → World → Prop
  | .panic _, _, _ => False
  | .normal, a, w => Q .normal a w
  | .ret, a, w => Q .ret a w
  | .exit i, a, w => Q (.exit i) a w
  | .goto t, a, w => Q (.goto t) a w
  | .outgrown, _, _ => False
theorem wpIn_noP {F : Fence} {n : Nat} {P : Program} {c : Code} {Q : Exit → Act → World → Prop} {a : Act} {w : World} (h : c.wpIn F n P (noP Q) a w) : c.wpIn F n P Q a w :=
  wpIn_mono h (fun e a w q => by cases e <;> first | exact q | exact False.elim q)
theorem ways_step (l : List Op04) (hv : ∀ y ∈ l, mayB y = true) (hn : l.length ≤ 4096) (ht : 12 + totN l ≤ 1048576) (i : Nat) (hi : i < l.length) (x : Op04) (hx : l[i]? = some x) :
    addE (l.take i) x = 0 ∧ addL (l.take i) x = l.take (i + 1) ∧ 12 + totN (l.take i) ≤ 1048576 ∧ mayB x = true := by
  have hmem : x ∈ l := List.mem_of_getElem? hx
  have hm := hv x hmem
  have e1 : l.take (i + 1) = l.take i ++ [x] := by
    rw [List.take_add_one, hx]
    rfl
  have e2 : totN l = totN (l.take (i + 1)) + totN (l.drop (i + 1)) := by rw [← totN_append, List.take_append_drop]
  rw [e1, totN_snoc] at e2
  have hl : (l.take i).length = i := by rw [List.length_take]; omega
  have hE : addE (l.take i) x = 0 := by
    unfold addE
    rw [if_pos hm, if_neg (by rintro (q | q) <;> omega)]
  refine ⟨hE, ?_, by omega, hm⟩
  unfold addL
  rw [hE, if_pos rfl, e1]
/-- a law's boxes -/
structure WY (w X : World) (seq : Int) (A : Option Addr) (n c : Nat) : Prop where
  below : Below w.heap.size w X
  s : Boxed X w.heap.size 32 (.int .u64 seq)
  o : Boxed X (w.heap.size + 1) 22 (.slice A n c)
  t : Boxed X (w.heap.size + 1 + 1) 4 (.bool false)
theorem WY.later {w X Y : World} {seq : Int} {A : Option Addr} {n c : Nat} (h : WY w X seq A n c) (hb : Below X.heap.size X Y) : WY w Y seq A n c := ⟨below_step h.below hb, blk_below h.s hb, blk_below h.o hb, blk_below h.t hb⟩
/-- the frame of a round's body -/
def fr165 (u : Nat → Value) (s o i n b : Value) : Act := { tmps := #[u 0, u 1, s, o, u 4, u 5, u 6, u 7, u 8, u 9, u 10, u 11, u 12, u 13, u 14, i, n, b, u 18, u 19, u 20, u 21, u 22, u 23, u 24, u 25, u 26, u 27, u 28, u 29, u 30, u 31, u 32, u 33, u 34, u 35, u 36, u 37, u 38, u 39, u 40, u 41, u 42, u 43, u 44, u 45, u 46, u 47, u 48, u 49, u 50, u 51, u 52, u 53, u 54, u 55, u 56, u 57, u 58, u 59, u 60, u 61, u 62, u 63, u 64, u 65, u 66, u 67, u 68, u 69, u 70, u 71, u 72, u 73, u 74, u 75, u 76, u 77, u 78, u 79, u 80, u 81, u 82, u 83, u 84, u 85, u 86, u 87, u 88, u 89, u 90, u 91, u 92, u 93, u 94, u 95, u 96, u 97, u 98, u 99, u 100, u 101, u 102, u 103, u 104, u 105, u 106, u 107, u 108, u 109, u 110, u 111, u 112, u 113, u 114, u 115, u 116, u 117, u 118, u 119, u 120, u 121, u 122, u 123, u 124, u 125, u 126, u 127, u 128, u 129, u 130, u 131, u 132, u 133, u 134, u 135, u 136, u 137, u 138, u 139, u 140, u 141, u 142, u 143, u 144, u 145, u 146, u 147, u 148, u 149, u 150, u 151, u 152, u 153, u 154, u 155, u 156, u 157, u 158, u 159, u 160, u 161, u 162, u 163, u 164], defers := [] }
def waysAx (s o i : Value) (m : Nat) (x : Gone) (a' : Act) (X : World) : Prop :=
  ∃ Bx u, m ≤ Bx ∧ X.heap[Bx]? = some (.cells #[.int .i64 x.2.1.f0, .string x.2.1.f1, .string x.2.1.f2] 65 (0, 0)) ∧ a' = fr165 u s o i (.int .u64 x.1) (.pointer (some ⟨Bx, 0, none⟩))
theorem waysAx_of {s o i : Value} {m : Nat} {x : Gone} {a' : Act} {X : World} (Bx : Nat) (h1 : m ≤ Bx) (h2 : X.heap[Bx]? = some (.cells #[.int .i64 x.2.1.f0, .string x.2.1.f1, .string x.2.1.f2] 65 (0, 0)))
    (h3 : a' = fr165 (fun k => a'.tmps.getD k undef) s o i (.int .u64 x.1) (.pointer (some ⟨Bx, 0, none⟩))) : waysAx s o i m x a' X := ⟨Bx, _, h1, h2, h3⟩
set_option maxHeartbeats 32000000 in
set_option maxRecDepth 100000 in
theorem ways_bad (a0 : Int) (A1 : Option Addr) (c1 : Nat) (l : List Op04) (w : World) (hc1 : l.length ≤ c1) (hr1 : Kd.C k65 w A1 l.length l) (f : Int) (hf : f ≠ 0) (he : batch_Encode.f (11 + l.length) a0 l = some ([], f)) :
    Calls Try.prog 13 #[.int .u64 a0, .slice A1 l.length c1] w fun e w' => e = .returned (.bool true) ∧ Below w.heap.size w w' := by
  have HR1 := Aside0.mk hr1
  have HC1 := Aside0.mk hc1
  have HE := Aside0.mk he
  obtain ⟨W0, hW0⟩ : ∃ W0, ((w.alloc (.cells #[.int .u64 a0] 32)).alloc (.cells #[.slice A1 l.length c1] 22)).alloc (.cells #[.bool false] 4) = W0 := ⟨_, rfl⟩
  have y0 : Boxed W0 w.heap.size 32 (.int .u64 a0) := by rw [← hW0]; exact ((Boxed.new w 32 (.int .u64 a0)).alloc _).alloc _
  have y1 : Boxed W0 (w.heap.size + 1) 22 (.slice A1 l.length c1) := by
    have := (Boxed.new (w.alloc (.cells #[.int .u64 a0] 32)) 22 (.slice A1 l.length c1)).alloc (.cells #[.bool false] 4)
    rw [World.size_alloc] at this
    rw [← hW0]; exact this
  have y2 : Boxed W0 (w.heap.size + 1 + 1) 4 (.bool false) := by
    have := Boxed.new ((w.alloc (.cells #[.int .u64 a0] 32)).alloc (.cells #[.slice A1 l.length c1] 22)) 4 (.bool false)
    rw [World.size_alloc, World.size_alloc] at this
    rw [← hW0]; exact this
  have HWY := Aside0.mk (show WY w W0 a0 A1 l.length c1 from ⟨by rw [← hW0]; exact below_alloc (below_alloc (below_alloc (Below.refl _ _) _) _) _, y0, y1, y2⟩)
  have HW0 := Aside0.mk hW0
  clear hr1 hc1 he y0 y1 y2 hW0
  have b1 : (f == 0) = false := by simpa using hf
  have b2 : (f != 0) = true := by simpa using hf
  clear hf
  refine (callsIn_wide (n := 4)).1 ?_
  refine callsIn_of_wp_marks Try.func13 rfl trivial ?_ rfl
  simp only [Try.ntmps13, List.size_toArray, List.length_cons, List.length_nil, Nat.reduceAdd, Nat.reduceSub, Array.replicate_succ, Array.replicate_zero, List.push_toArray, List.append_toArray, List.nil_append, List.cons_append]
  gi_wp2_with fail
  refine ⟨trivial, ?_⟩
  rw [HW0.out]
  (with_reducible refine (callsIn_wide.2 (morainelaw04_works.calls 13 true _ (works_true 13 (Nat.le_refl _)))).mono ?_)
  rintro e w1 ⟨rfl, hb⟩
  have HWY := Aside0.mk (HWY.out.later hb)
  have ks := HWY.out.s.cell
  have ko := HWY.out.o.cell
  clear hb HW0
  gi_wp2_with fail
  refine ⟨trivial, ?_⟩
  (with_reducible refine (callsIn_wide.2 (batch_Encode.calls _ a0 A1 c1 l _ _ _ (Kd.C_below HR1.out HWY.out.below) HC1.out HE.out)).mono ?_)
  rintro e w2 ⟨v2, rfl, ho, hb⟩
  have HV := Aside0.mk ho
  have HWY := Aside0.mk (HWY.out.later hb)
  obtain ⟨A3, c3, rfl⟩ := Kd.R_slice HV.out
  have kt := HWY.out.t.cell
  have kf := HWY.out.t.frozen
  clear ho hb ks ko
  gi_wp2
  exact ⟨_, results_c rfl _ _ (w.heap.size + 1 + 1) (.bool true) rfl (Boxed.cell (Boxed.set (.bool true) HWY.out.t)) Try.underlying4, rfl, below_set HWY.out.below (by omega)⟩
set_option maxHeartbeats 32000000 in
set_option maxRecDepth 100000 in
theorem ways_good (a0 : Int) (A1 : Option Addr) (c1 : Nat) (l : List Op04) (w : World) (hc1 : l.length ≤ c1) (hr1 : Kd.C k65 w A1 l.length l) (hs : Sane l) (hq : 0 ≤ a0) (hq2 : a0 < 18446744073709551616) (hz : (encR a0 l).2 = 0) (E : List Int) (hEE : E = encB a0 l) (he : batch_Encode.f (11 + l.length) a0 l = some (E, 0)) :
    Calls Try.prog 13 #[.int .u64 a0, .slice A1 l.length c1] w fun e w' => e = .returned (.bool true) ∧ Below w.heap.size w w' := by
  obtain ⟨hck, _, _⟩ := encR_ok hz
  obtain ⟨hck1, hn4, hval, htot⟩ := chk_ok hck
  have hEl : E.length = 12 + totN l := by rw [hEE, encB_len]
  have hEb : Bytes E := by rw [hEE]; exact encB_bytes a0 l
  obtain ⟨q8, q4, e3, _⟩ := enc_pre a0 l [] hq hq2 hn4 hval (by rw [List.append_nil, ← hEE]; omega)
  rw [List.append_nil, ← hEE] at q8 q4 e3
  have HHD := Aside0.mk (show batch_Head.f 10 E = some (a0, (l.length : Int), 0) by
    rw [head_eq 10 E hEb (by omega) (Nat.le_refl _)]
    unfold headR
    rw [if_neg (by omega), q8, q4])
  have HSZ := Aside0.mk (show batch_Size.f (11 + l.length) l = some ((E.length : Int), 0) by
    rw [batchsize_eq _ l hs (Nat.le_refl _)]
    unfold sizeOf
    rw [hck1]
    simp only [hEl]
    first | rfl | simp)
  have HST := Aside0.mk (ways_step l hval hn4 htot)
  have HEB := Aside0.mk hEb
  have HGE := Aside0.mk e3
  have HNUM := Aside0.mk (show ∀ (j : Nat) (g : Gone), (goneL E)[j]? = some g → g.1 = IntKind.u64.wrap (a0 + (j : Int)) from fun j g h => by
    have := goneL_num E j g h
    rw [if_neg (by omega), q8] at this
    exact this)
  have HE2 := Aside0.mk (encode_eq (11 + l.length) a0 l hq hs (Nat.le_refl _))
  have HE2 := Aside0.mk (show batch_Encode.f (11 + l.length) a0 l = some (E, 0) from he)
  have HEL := Aside0.mk (show E.length ≤ 1048576 by omega)
  have HE12 := Aside0.mk (show 12 ≤ E.length by omega)
  have HN4 := Aside0.mk hn4
  have HLG := Aside0.mk (show l.length = (goneL E).length by have := congrArg List.length e3; rw [opsOf_len] at this; exact this.symm)
  have HQ := Aside0.mk (And.intro hq hq2)
  have HR1 := Aside0.mk hr1
  have HC1 := Aside0.mk hc1
  have HE := Aside0.mk he
  obtain ⟨W0, hW0⟩ : ∃ W0, ((w.alloc (.cells #[.int .u64 a0] 32)).alloc (.cells #[.slice A1 l.length c1] 22)).alloc (.cells #[.bool false] 4) = W0 := ⟨_, rfl⟩
  have y0 : Boxed W0 w.heap.size 32 (.int .u64 a0) := by rw [← hW0]; exact ((Boxed.new w 32 (.int .u64 a0)).alloc _).alloc _
  have y1 : Boxed W0 (w.heap.size + 1) 22 (.slice A1 l.length c1) := by
    have := (Boxed.new (w.alloc (.cells #[.int .u64 a0] 32)) 22 (.slice A1 l.length c1)).alloc (.cells #[.bool false] 4)
    rw [World.size_alloc] at this
    rw [← hW0]; exact this
  have y2 : Boxed W0 (w.heap.size + 1 + 1) 4 (.bool false) := by
    have := Boxed.new ((w.alloc (.cells #[.int .u64 a0] 32)).alloc (.cells #[.slice A1 l.length c1] 22)) 4 (.bool false)
    rw [World.size_alloc, World.size_alloc] at this
    rw [← hW0]; exact this
  have HWY := Aside0.mk (show WY w W0 a0 A1 l.length c1 from ⟨by rw [← hW0]; exact below_alloc (below_alloc (below_alloc (Below.refl _ _) _) _) _, y0, y1, y2⟩)
  have HW0 := Aside0.mk hW0
  clear hr1 hc1 he y0 y1 y2 hW0
  clear hs hz hEE hck hck1 hval htot hEl hEb q8 q4 e3 hq hq2
  refine (callsIn_wide (n := 4)).1 ?_
  refine callsIn_of_wp_marks Try.func13 rfl trivial ?_ rfl
  refine wpIn_noP ?_
  simp only [Try.ntmps13, List.size_toArray, List.length_cons, List.length_nil, Nat.reduceAdd, Nat.reduceSub, Array.replicate_succ, Array.replicate_zero, List.push_toArray, List.append_toArray, List.nil_append, List.cons_append]
  gi_wp2_with fail
  refine ⟨trivial, ?_⟩
  rw [HW0.out]
  (with_reducible refine (callsIn_wide.2 (morainelaw04_works.calls 13 true _ (works_true 13 (Nat.le_refl _)))).mono ?_)
  rintro e w1 ⟨rfl, hb⟩
  have HWY := Aside0.mk (HWY.out.later hb)
  have ks := HWY.out.s.cell
  have ko := HWY.out.o.cell
  clear hb HW0
  gi_wp2_with fail
  refine ⟨trivial, ?_⟩
  (with_reducible refine (callsIn_wide.2 (batch_Encode.calls _ a0 A1 c1 l _ _ _ (Kd.C_below HR1.out HWY.out.below) HC1.out HE.out)).mono ?_)
  rintro e w2 ⟨v2, rfl, ho, hb⟩
  have HV := Aside0.mk ho
  have HWY := Aside0.mk (HWY.out.later hb)
  obtain ⟨A3, c3, rfl⟩ := Kd.R_slice HV.out
  have kt := HWY.out.t.cell
  have kf := HWY.out.t.frozen
  clear ho hb ks ko
  obtain ⟨g3, cap3, eg3, _⟩ := Kd.R_form HV.out (by have := HE12.out; omega)
  injection eg3 with eg31 eg32 eg33
  subst eg31
  subst eg33
  clear eg32
  gi_wp2_with fail
  refine ⟨trivial, ?_⟩
  (with_reducible refine (callsIn_wide.2 (bu_new _)).mono ?_)
  rintro e w3 ⟨rfl, hbu, hb⟩
  have HBU := Aside0.mk (show BuAt w3 w2.heap.size w2.heap.size (.slice none 0 0) (l.take 0) from hbu)
  have HB3 := Aside0.mk hb
  clear hbu hb kt kf
  gi_wp2_with fail
  refine (wpIn_wide (n := 4)).2 ?_
  go_loopw [6, 8] (fun v6 v8 wr => ∃ (i : Nat) (v : Value), v6 = .int .i64 0 ∧ v8 = .int .i64 (i : Int) ∧ i ≤ l.length ∧ Aside0 (BuAt wr w2.heap.size w2.heap.size v (l.take i)) ∧ Aside0 (Below w2.heap.size w2 wr)) (fun _ v8 _ => l.length - (intOf v8).toNat)
  case atStart => exact ⟨0, _, rfl, rfl, by omega, HBU, HB3⟩
  case round =>
    clear HBU HB3
    obtain ⟨i, v, rfl, rfl, hi, HBU, HB⟩ := hrel
    have hwy := HWY.out.later HB.out
    have ko := hwy.o.cell
    by_cases hlt : i < l.length
    · have b1 : decide ((i : Int) < (l.length : Int)) = true := decide_eq_true (by omega)
      have b2 : decide (i < l.length) = true := decide_eq_true hlt
      have hln := HN4.out
      obtain ⟨ad, hA, a1, a2, a3⟩ := at_T65 (Kd.C_below HR1.out hwy.below) (i : Int) (by omega) (by omega)
      obtain ⟨x, hx⟩ : ∃ x, rd_T65 l (i : Int) = x := ⟨_, rfl⟩
      have hget : l[i]? = some x := by
        rw [← hx]
        unfold rd_T65
        rw [Int.toNat_natCast, List.getD_eq_getElem?_getD, List.getElem?_eq_getElem hlt]
        rfl
      obtain ⟨hE, hLL, ht, hm⟩ := HST.out i hlt x hget
      have hk := may_kind x hm
      rw [hx, Int.toNat_natCast] at a1 a2 a3
      subst hA
      obtain ⟨y0, y1, y2⟩ := x
      have p0 := eq_true (show 0 ≤ (i : Int) by omega)
      have p1 := eq_true (show (i : Int) < (l.length : Int) by omega)
      have p4 := eq_true (show i < l.length from hlt)
      have HT := Aside0.mk ht
      have HEE := Aside0.mk hE
      have HLE := Aside0.mk hLL
      clear hget hx hm hE hLL ht hwy
      have hk1 := hk.1
      have hk2 := hk.2.1
      have hk3 := hk.2.2
      dsimp only at hk1 hk2 hk3 a1 a2 a3
      clear hk
      rcases (show y0 = 0 ∨ y0 = 1 ∨ y0 = 2 by omega) with rfl | rfl | rfl
      · obtain rfl := hk3 rfl
        have HP := Aside0.mk (bu_delete wr _ _ v (l.take i) y1 HBU.out HT.out HB.out.size)
        rw [HEE.out, HLE.out] at HP
        clear hk1 hk2 hk3
        go_wp2_with fail
        (with_reducible refine HP.out.mono ?_)
        rintro e w5 ⟨v', rfl, h1, h2⟩
        have HBU2 := Aside0.mk h1
        have HB2 := Aside0.mk (HB.out.trans (h2.bel HBU.out))
        clear h1 h2
        go_wp2
        go_roundw
        case rel => exact ⟨i + 1, v', rfl, by first | rfl | go_num, hlt, HBU2, HB2⟩
        case measure =>
          first | (show l.length - ((i : Int) + 1).toNat < l.length - (i : Int).toNat; omega) | (simp only [intOf]; omega)
      · skip
        have HP := Aside0.mk (bu_put wr.drew _ _ v (l.take i) y1 y2 (HBU.out.below (below_drew1 (Below.refl _ _))) HT.out HB.out.size)
        rw [HEE.out, HLE.out] at HP
        clear hk1 hk2 hk3
        go_wp2_with fail
        refine start_ (n := 13) (S := fun w' => w'.cell? ⟨w.heap.size + 1, 0, none⟩ = some (.slice (some ad) l.length c1) ∧ w'.cell? ⟨(ad.add (i * 3)).block, (ad.add (i * 3)).off + 1, none⟩ = some (.string y1) ∧ w'.cell? ⟨(ad.add (i * 3)).block, (ad.add (i * 3)).off + 2, none⟩ = some (.string y2)) (ds := [11]) #[false, false, false, false, false, false, false, false, false, false, false, false, false] (by kernel_rfl) rfl rfl ⟨ko, a2, a3⟩ (fun hHeld => ?_)
        refine pure_ (i := 0) (N := some 47) (v := ?_) (a' := ?_) #[true, false, false, false, false, false, false, false, false, false, false, false, false] rfl rfl (by kernel_rfl) (fun _ _ _ h => h) (Or.inl ⟨by rfl, ?_⟩) ?_ ?_
        rotate_left
        · intro w'
          go_simp
          with_reducible rfl
        rotate_left
        · simp only [Act.put, List.setIfInBounds_toArray, List.set_cons_zero, List.set_cons_succ, i64_w, i32_w]
          rfl
        refine pure_ (i := 2) (N := some 49) (v := ?_) (a' := ?_) #[true, false, true, false, false, false, false, false, false, false, false, false, false] rfl rfl (by kernel_rfl) (fun _ _ _ h => h) (Or.inl ⟨by rfl, ?_⟩) ?_ ?_
        rotate_left
        · intro w'
          go_simp
          with_reducible rfl
        rotate_left
        · simp only [Act.put, List.setIfInBounds_toArray, List.set_cons_zero, List.set_cons_succ, i64_w, i32_w]
          rfl
        refine pure_ (i := 7) (N := some 54) (v := ?_) (a' := ?_) #[true, false, true, false, false, false, false, true, false, false, false, false, false] rfl rfl (by kernel_rfl) (fun _ _ _ h => h) (Or.inl ⟨by rfl, ?_⟩) ?_ ?_
        rotate_left
        · intro w'
          go_simp
          with_reducible rfl
        rotate_left
        · simp only [Act.put, List.setIfInBounds_toArray, List.set_cons_zero, List.set_cons_succ, i64_w, i32_w]
          rfl
        refine take_ (i := 1) (N := some 48) (v := ?_) (a' := ?_) #[true, true, true, false, false, false, false, true, false, false, false, false, false] rfl rfl (by kernel_rfl) (fun _ _ _ h => h) (Or.inl ⟨by rfl, ?_⟩) hHeld ?_ ?_
        rotate_left
        · rintro w' ⟨s0, s1, s2⟩
          go_simp
          with_reducible rfl
        rotate_left
        · simp only [Act.put, List.setIfInBounds_toArray, List.set_cons_zero, List.set_cons_succ, i64_w, i32_w]
          rfl
        refine pure_ (i := 3) (N := some 50) (v := ?_) (a' := ?_) #[true, true, true, true, false, false, false, true, false, false, false, false, false] rfl rfl (by kernel_rfl) (fun _ _ _ h => h) (Or.inl ⟨by rfl, ?_⟩) ?_ ?_
        rotate_left
        · intro w'
          go_simp
          with_reducible rfl
        rotate_left
        · simp only [Act.put, List.setIfInBounds_toArray, List.set_cons_zero, List.set_cons_succ, i64_w, i32_w]
          rfl
        refine pure_ (i := 4) (N := some 51) (v := ?_) (a' := ?_) #[true, true, true, true, true, false, false, true, false, false, false, false, false] rfl rfl (by kernel_rfl) (fun _ _ _ h => h) (Or.inl ⟨by rfl, ?_⟩) ?_ ?_
        rotate_left
        · intro w'
          go_simp
          with_reducible rfl
        rotate_left
        · simp only [Act.put, List.setIfInBounds_toArray, List.set_cons_zero, List.set_cons_succ, i64_w, i32_w]
          rfl
        refine take_ (i := 5) (N := some 52) (v := ?_) (a' := ?_) #[true, true, true, true, true, true, false, true, false, false, false, false, false] rfl rfl (by kernel_rfl) (fun _ _ _ h => h) (Or.inl ⟨by rfl, ?_⟩) hHeld ?_ ?_
        rotate_left
        · rintro w' ⟨s0, s1, s2⟩
          go_simp
          with_reducible rfl
        rotate_left
        · simp only [Act.put, List.setIfInBounds_toArray, List.set_cons_zero, List.set_cons_succ, i64_w, i32_w]
          rfl
        refine take_ (i := 6) (N := some 53) (v := ?_) (a' := ?_) #[true, true, true, true, true, true, true, true, false, false, false, false, false] rfl rfl (by kernel_rfl) (fun _ _ _ h => h) (Or.inl ⟨by rfl, ?_⟩) hHeld ?_ ?_
        rotate_left
        · rintro w' ⟨s0, s1, s2⟩
          go_simp
          with_reducible rfl
        rotate_left
        · simp only [Act.put, List.setIfInBounds_toArray, List.set_cons_zero, List.set_cons_succ, i64_w, i32_w]
          rfl
        refine pure_ (i := 8) (N := some 55) (v := ?_) (a' := ?_) #[true, true, true, true, true, true, true, true, true, false, false, false, false] rfl rfl (by kernel_rfl) (fun _ _ _ h => h) (Or.inl ⟨by rfl, ?_⟩) ?_ ?_
        rotate_left
        · intro w'
          go_simp
          with_reducible rfl
        rotate_left
        · simp only [Act.put, List.setIfInBounds_toArray, List.set_cons_zero, List.set_cons_succ, i64_w, i32_w]
          rfl
        refine pure_ (i := 9) (N := some 56) (v := ?_) (a' := ?_) #[true, true, true, true, true, true, true, true, true, true, false, false, false] rfl rfl (by kernel_rfl) (fun _ _ _ h => h) (Or.inl ⟨by rfl, ?_⟩) ?_ ?_
        rotate_left
        · intro w'
          go_simp
          with_reducible rfl
        rotate_left
        · simp only [Act.put, List.setIfInBounds_toArray, List.set_cons_zero, List.set_cons_succ, i64_w, i32_w]
          rfl
        refine take_ (i := 10) (N := some 57) (v := ?_) (a' := ?_) #[true, true, true, true, true, true, true, true, true, true, true, false, false] rfl rfl (by kernel_rfl) (fun _ _ _ h => h) (Or.inl ⟨by rfl, ?_⟩) hHeld ?_ ?_
        rotate_left
        · rintro w' ⟨s0, s1, s2⟩
          go_simp
          with_reducible rfl
        rotate_left
        · simp only [Act.put, List.setIfInBounds_toArray, List.set_cons_zero, List.set_cons_succ, i64_w, i32_w]
          rfl
        refine last_ (i := 11) (N := some 58) #[true, true, true, true, true, true, true, true, true, true, true, true, false] rfl rfl (by kernel_rfl) (by decide) (fun K hK => ?_)
        refine goes_ Try.func29 (by kernel_rfl) rfl #[.pointer (some ⟨w2.heap.size, 0, none⟩), .string y1, .string y2] (by rfl) rfl rfl (by simp only [List.map_toArray, List.map_cons, List.map_nil]; rfl) ?_
        with_reducible refine (HP.out).mono ?_
        rintro e w5 ⟨v', rfl, h1, h2⟩
        refine ⟨_, rfl, ?_⟩
        have HBU2 := Aside0.mk h1
        have HB2 := Aside0.mk ((below_drew HB.out).trans (h2.bel (HBU.out.below (below_drew1 (Below.refl _ _)))))
        clear h1 h2
        refine hK.out _ _ ?_
        clear hK K
        refine norm_ (a' := ?_) ?_ ?_
        rotate_left
        · show Act.put _ (some 58) _ = _
          simp only [Act.put, List.setIfInBounds_toArray, List.set_cons_zero, List.set_cons_succ, i64_w, i32_w]
          rfl
        refine pure_ (i := 12) (N := some 6) (v := ?_) (a' := ?_) #[true, true, true, true, true, true, true, true, true, true, true, true, true] rfl rfl (by kernel_rfl) (fun _ _ _ h => h) (Or.inl ⟨by rfl, ?_⟩) ?_ ?_
        rotate_left
        · intro w'
          go_simp
          with_reducible rfl
        rotate_left
        · simp only [Act.put, List.setIfInBounds_toArray, List.set_cons_zero, List.set_cons_succ, i64_w, i32_w]
          rfl
        refine done_ (by kernel_rfl) ?_
        go_wp2
        go_roundw
        case rel => exact ⟨i + 1, v', rfl, by first | rfl | go_num, hlt, HBU2, HB2⟩
        case measure =>
          first | (show l.length - ((i : Int) + 1).toNat < l.length - (i : Int).toNat; omega) | (simp only [intOf]; omega)
      · skip
        have HP := Aside0.mk (bu_range wr.drew _ _ v (l.take i) y1 y2 (HBU.out.below (below_drew1 (Below.refl _ _))) HT.out HB.out.size)
        rw [HEE.out, HLE.out] at HP
        clear hk1 hk2 hk3
        go_wp2_with fail
        refine start_ (n := 13) (S := fun w' => w'.cell? ⟨w.heap.size + 1, 0, none⟩ = some (.slice (some ad) l.length c1) ∧ w'.cell? ⟨(ad.add (i * 3)).block, (ad.add (i * 3)).off + 1, none⟩ = some (.string y1) ∧ w'.cell? ⟨(ad.add (i * 3)).block, (ad.add (i * 3)).off + 2, none⟩ = some (.string y2)) (ds := [11]) #[false, false, false, false, false, false, false, false, false, false, false, false, false] (by kernel_rfl) rfl rfl ⟨ko, a2, a3⟩ (fun hHeld => ?_)
        refine pure_ (i := 0) (N := some 70) (v := ?_) (a' := ?_) #[true, false, false, false, false, false, false, false, false, false, false, false, false] rfl rfl (by kernel_rfl) (fun _ _ _ h => h) (Or.inl ⟨by rfl, ?_⟩) ?_ ?_
        rotate_left
        · intro w'
          go_simp
          with_reducible rfl
        rotate_left
        · simp only [Act.put, List.setIfInBounds_toArray, List.set_cons_zero, List.set_cons_succ, i64_w, i32_w]
          rfl
        refine pure_ (i := 2) (N := some 72) (v := ?_) (a' := ?_) #[true, false, true, false, false, false, false, false, false, false, false, false, false] rfl rfl (by kernel_rfl) (fun _ _ _ h => h) (Or.inl ⟨by rfl, ?_⟩) ?_ ?_
        rotate_left
        · intro w'
          go_simp
          with_reducible rfl
        rotate_left
        · simp only [Act.put, List.setIfInBounds_toArray, List.set_cons_zero, List.set_cons_succ, i64_w, i32_w]
          rfl
        refine pure_ (i := 7) (N := some 77) (v := ?_) (a' := ?_) #[true, false, true, false, false, false, false, true, false, false, false, false, false] rfl rfl (by kernel_rfl) (fun _ _ _ h => h) (Or.inl ⟨by rfl, ?_⟩) ?_ ?_
        rotate_left
        · intro w'
          go_simp
          with_reducible rfl
        rotate_left
        · simp only [Act.put, List.setIfInBounds_toArray, List.set_cons_zero, List.set_cons_succ, i64_w, i32_w]
          rfl
        refine take_ (i := 1) (N := some 71) (v := ?_) (a' := ?_) #[true, true, true, false, false, false, false, true, false, false, false, false, false] rfl rfl (by kernel_rfl) (fun _ _ _ h => h) (Or.inl ⟨by rfl, ?_⟩) hHeld ?_ ?_
        rotate_left
        · rintro w' ⟨s0, s1, s2⟩
          go_simp
          with_reducible rfl
        rotate_left
        · simp only [Act.put, List.setIfInBounds_toArray, List.set_cons_zero, List.set_cons_succ, i64_w, i32_w]
          rfl
        refine pure_ (i := 3) (N := some 73) (v := ?_) (a' := ?_) #[true, true, true, true, false, false, false, true, false, false, false, false, false] rfl rfl (by kernel_rfl) (fun _ _ _ h => h) (Or.inl ⟨by rfl, ?_⟩) ?_ ?_
        rotate_left
        · intro w'
          go_simp
          with_reducible rfl
        rotate_left
        · simp only [Act.put, List.setIfInBounds_toArray, List.set_cons_zero, List.set_cons_succ, i64_w, i32_w]
          rfl
        refine pure_ (i := 4) (N := some 74) (v := ?_) (a' := ?_) #[true, true, true, true, true, false, false, true, false, false, false, false, false] rfl rfl (by kernel_rfl) (fun _ _ _ h => h) (Or.inl ⟨by rfl, ?_⟩) ?_ ?_
        rotate_left
        · intro w'
          go_simp
          with_reducible rfl
        rotate_left
        · simp only [Act.put, List.setIfInBounds_toArray, List.set_cons_zero, List.set_cons_succ, i64_w, i32_w]
          rfl
        refine take_ (i := 5) (N := some 75) (v := ?_) (a' := ?_) #[true, true, true, true, true, true, false, true, false, false, false, false, false] rfl rfl (by kernel_rfl) (fun _ _ _ h => h) (Or.inl ⟨by rfl, ?_⟩) hHeld ?_ ?_
        rotate_left
        · rintro w' ⟨s0, s1, s2⟩
          go_simp
          with_reducible rfl
        rotate_left
        · simp only [Act.put, List.setIfInBounds_toArray, List.set_cons_zero, List.set_cons_succ, i64_w, i32_w]
          rfl
        refine take_ (i := 6) (N := some 76) (v := ?_) (a' := ?_) #[true, true, true, true, true, true, true, true, false, false, false, false, false] rfl rfl (by kernel_rfl) (fun _ _ _ h => h) (Or.inl ⟨by rfl, ?_⟩) hHeld ?_ ?_
        rotate_left
        · rintro w' ⟨s0, s1, s2⟩
          go_simp
          with_reducible rfl
        rotate_left
        · simp only [Act.put, List.setIfInBounds_toArray, List.set_cons_zero, List.set_cons_succ, i64_w, i32_w]
          rfl
        refine pure_ (i := 8) (N := some 78) (v := ?_) (a' := ?_) #[true, true, true, true, true, true, true, true, true, false, false, false, false] rfl rfl (by kernel_rfl) (fun _ _ _ h => h) (Or.inl ⟨by rfl, ?_⟩) ?_ ?_
        rotate_left
        · intro w'
          go_simp
          with_reducible rfl
        rotate_left
        · simp only [Act.put, List.setIfInBounds_toArray, List.set_cons_zero, List.set_cons_succ, i64_w, i32_w]
          rfl
        refine pure_ (i := 9) (N := some 79) (v := ?_) (a' := ?_) #[true, true, true, true, true, true, true, true, true, true, false, false, false] rfl rfl (by kernel_rfl) (fun _ _ _ h => h) (Or.inl ⟨by rfl, ?_⟩) ?_ ?_
        rotate_left
        · intro w'
          go_simp
          with_reducible rfl
        rotate_left
        · simp only [Act.put, List.setIfInBounds_toArray, List.set_cons_zero, List.set_cons_succ, i64_w, i32_w]
          rfl
        refine take_ (i := 10) (N := some 80) (v := ?_) (a' := ?_) #[true, true, true, true, true, true, true, true, true, true, true, false, false] rfl rfl (by kernel_rfl) (fun _ _ _ h => h) (Or.inl ⟨by rfl, ?_⟩) hHeld ?_ ?_
        rotate_left
        · rintro w' ⟨s0, s1, s2⟩
          go_simp
          with_reducible rfl
        rotate_left
        · simp only [Act.put, List.setIfInBounds_toArray, List.set_cons_zero, List.set_cons_succ, i64_w, i32_w]
          rfl
        refine last_ (i := 11) (N := some 81) #[true, true, true, true, true, true, true, true, true, true, true, true, false] rfl rfl (by kernel_rfl) (by decide) (fun K hK => ?_)
        refine goes_ Try.func31 (by kernel_rfl) rfl #[.pointer (some ⟨w2.heap.size, 0, none⟩), .string y1, .string y2] (by rfl) rfl rfl (by simp only [List.map_toArray, List.map_cons, List.map_nil]; rfl) ?_
        with_reducible refine (HP.out).mono ?_
        rintro e w5 ⟨v', rfl, h1, h2⟩
        refine ⟨_, rfl, ?_⟩
        have HBU2 := Aside0.mk h1
        have HB2 := Aside0.mk ((below_drew HB.out).trans (h2.bel (HBU.out.below (below_drew1 (Below.refl _ _)))))
        clear h1 h2
        refine hK.out _ _ ?_
        clear hK K
        refine norm_ (a' := ?_) ?_ ?_
        rotate_left
        · show Act.put _ (some 81) _ = _
          simp only [Act.put, List.setIfInBounds_toArray, List.set_cons_zero, List.set_cons_succ, i64_w, i32_w]
          rfl
        refine pure_ (i := 12) (N := some 6) (v := ?_) (a' := ?_) #[true, true, true, true, true, true, true, true, true, true, true, true, true] rfl rfl (by kernel_rfl) (fun _ _ _ h => h) (Or.inl ⟨by rfl, ?_⟩) ?_ ?_
        rotate_left
        · intro w'
          go_simp
          with_reducible rfl
        rotate_left
        · simp only [Act.put, List.setIfInBounds_toArray, List.set_cons_zero, List.set_cons_succ, i64_w, i32_w]
          rfl
        refine done_ (by kernel_rfl) ?_
        go_wp2
        go_roundw
        case rel => exact ⟨i + 1, v', rfl, by first | rfl | go_num, hlt, HBU2, HB2⟩
        case measure =>
          first | (show l.length - ((i : Int) + 1).toNat < l.length - (i : Int).toNat; omega) | (simp only [intOf]; omega)
    · have b1 : decide ((i : Int) < (l.length : Int)) = false := decide_eq_false (by omega)
      have b2 : decide (i < l.length) = false := decide_eq_false hlt
      obtain rfl : i = l.length := by omega
      have hbu := HBU.out
      rw [List.take_length] at hbu
      have HBU := Aside0.mk hbu
      have ks := hwy.s.cell
      have HWY4 := Aside0.mk hwy
      clear hbu hi hlt hwy
      go_wp2_with fail
      gi_wp2_with fail
      refine ⟨trivial, ?_⟩
      (with_reducible refine (callsIn_wide.2 (bu_bytes _ _ _ v l a0 HBU.out _ _ _ HE2.out)).mono ?_)
      rintro e w5 ⟨v5, rfl, ho, hb⟩
      have HV5 := Aside0.mk ho
      have HV := Aside0.mk (Kd.R_below HV.out (below_step HB.out hb))
      have HWY5 := Aside0.mk (HWY4.out.later hb)
      have ko := HWY5.out.o.cell
      clear ho hb ks b1 b2
      gi_wp2_with fail
      refine ⟨trivial, ?_⟩
      (with_reducible refine (callsIn_wide.2 (batch_Size.calls _ A1 c1 l _ _ _ (Kd.C_below HR1.out HWY5.out.below) HC1.out HSZ.out)).mono ?_)
      rintro e w6 ⟨rfl, hb⟩
      have HV5 := Aside0.mk (Kd.R_below HV5.out hb)
      have HV := Aside0.mk (Kd.R_below HV.out hb)
      have HWY6 := Aside0.mk (HWY5.out.later hb)
      clear hb ko
      gi_wp2_with fail
      refine ⟨trivial, ?_⟩
      (with_reducible refine (callsIn_wide.2 (batch_Head.calls 10 _ _ E _ _ _ _ (Kd.R_reads' HV.out).2.2 (Kd.R_reads' HV.out).2.1 HHD.out)).mono ?_)
      rintro e w7 ⟨rfl, hd⟩
      have HV5 := Aside0.mk (Kd.R_below HV5.out hd.below)
      have HV := Aside0.mk (Kd.R_below HV.out hd.below)
      have HWY7 := Aside0.mk (HWY6.out.later hd.below)
      have ko := HWY7.out.o.cell
      have ks := HWY7.out.s.cell
      have hcv5 := own_string (P := Try.prog) Try.underlying33 Try.underlying5 Try.underlying9 (Kd.own_of_R HV5.out)
      have hcv3 := own_string (P := Try.prog) Try.underlying33 Try.underlying5 Try.underlying9 (Kd.own_of_R HV.out)
      obtain ⟨B5, d5, rfl⟩ := Kd.R_slice HV5.out
      have HBI := Aside0.mk (Boxed.new w7 3 (.int .i64 0))
      have HBW := Aside0.mk (below_alloc (Below.refl w7.heap.size w7) (.cells #[.int .i64 0] 3))
      have HCE := Aside0.mk (Kd.R_reads' (Kd.R_below HV.out HBW.out)).2.2
      clear hd
      gi_wp2_with fail
      refine ⟨trivial, ?_⟩
      (with_reducible refine (callsIn_wide.2 (walk_calls g3 _ E _ HCE.out (by have := HEL.out; omega))).mono ?_)
      rintro e w8 ⟨vc, rfl, hn8, hc8, hb8⟩
      obtain ⟨Ac, cc, rfl, hlc, _⟩ := Kd.R_reads hc8
      have HN8 := Aside0.mk hn8
      have HC8 := Aside0.mk hc8
      have HB8 := Aside0.mk (show Below w7.heap.size w7 w8 from below_step HBW.out hb8)
      have HBI8 := Aside0.mk (show Boxed w8 w7.heap.size 3 (.int .i64 0) from blk_below HBI.out hb8)
      have hzx := World.size_alloc w7 (.cells #[.int .i64 0] 3)
      have hs8 := hb8.size
      have HLC := Aside0.mk hlc
      clear hcv5 hcv3 hn8 hc8 hb8 hlc ko ks
      rw [hzx] at HN8 HC8 hs8
      gi_wp2_with fail
      have hi8 := blk_lt HBI8.out
      refine rich_range2 (n := 4) (F := Fence.wide) 3 rfl (by decide) (gf := 69) (lb := #[.pointer (some ⟨w7.heap.size + 1, 0, none⟩)]) rfl trivial (enters_of Try.func69 (by kernel_rfl) rfl)
        (walk1_rich (w7.heap.size + 1) Ac cc E (fun k => k = w7.heap.size) w8 HEB.out (by have := HEL.out; omega) HLC.out ?rc HN8.out ?ra ?rv ?rl) ?rl2 (Below.refl _ _) (fun _ => rfl)
        (walksI w7.heap.size w7) (fun _ _ => False) (walksI_own _ _ _ HB8.out.size) (fun _ _ _ _ hs _ _ => hs) ⟨HBI8.out, HB8.out⟩ (waysAx (.pointer (some ⟨w.heap.size, 0, none⟩)) (.pointer (some ⟨w.heap.size + 1, 0, none⟩)) (.pointer (some ⟨w7.heap.size, 0, none⟩)) w8.heap.size) ?ax ?assign ?body ?done
      case rc => exact (Kd.R_reads' HC8.out).2.2
      case ra =>
        intro ad e
        have h1 := R_rowat HC8.out ad e
        have h2 := Kd.R_base HC8.out ad.block h1.2
        exact ⟨h1.1, by omega⟩
      case rv => omega
      case rl => rintro k rfl; exact hi8
      case rl2 => rintro k rfl; exact hi8
      case ax =>
        rintro x a' _ X Y row ⟨Bx, u, h1, h2, h3⟩ hg hr
        exact ⟨Bx, u, h1, cells_own Bx _ _ X Y row h2 hg (fun r e => (hr r e).2), h3⟩
      case assign =>
        rintro pre x X K hX ⟨h1, h2⟩ hK
        simp only [encW]
        gi_wp2
        exact hK _ _ (Leave.alloc X _) ⟨h1.alloc _, below_alloc h2 _⟩ (waysAx_of X.heap.size (by omega) (World.alloc_heap_new X _) rfl)
      case body =>
        rintro pre x a' X hX hr ⟨hbi, hbl⟩ ⟨Bx, u, hBx, hbx, rfl⟩ hpre
        obtain ⟨hpa, hpl⟩ := pre_at hpre
        have hx1 := HNUM.out _ _ hpa
        have hx2 : l[pre.length]? = some x.2.1 := by rw [← HGE.out]; unfold opsOf04; rw [List.getElem?_map, hpa]; rfl
        have hws := HWY7.out.later hbl
        have hlg := HLG.out
        have hpl2 := HN4.out
        obtain ⟨ad, hA, a0', a1, a2⟩ := at_T65 (Kd.C_below HR1.out hws.below) (pre.length : Int) (by omega) (by omega)
        have hrd : rd_T65 l (pre.length : Int) = x.2.1 := by unfold rd_T65; rw [Int.toNat_natCast, List.getD_eq_getElem?_getD, hx2]; rfl
        rw [hrd, Int.toNat_natCast] at a0' a1 a2
        have ck1 := hbi.cell
        have ck2 := hbi.frozen
        have ck4 := hws.s.cell
        have ck5 := hws.o.cell
        subst hA
        obtain ⟨x1, ⟨y0, y1, y2⟩, x2⟩ := x
        dsimp only at hx1 a0' a1 a2 hbx
        subst hx1
        have b0 : X.cell? ⟨Bx, 0, none⟩ = some (.int .i64 y0) := by simp [World.cell?, hbx]
        have b1 : X.cell? ⟨Bx, 1, none⟩ = some (.string y1) := by simp [World.cell?, hbx]
        have b2 : X.cell? ⟨Bx, 2, none⟩ = some (.string y2) := by simp [World.cell?, hbx]
        have HNX := Aside0.mk (show ∀ nq, Leave (fun k => k = w7.heap.size) X ((X.drewN nq).setCell ⟨w7.heap.size, 0, none⟩ (.int .i64 ((pre.length : Int) + 1))) ∧ walksI w7.heap.size w7 (pre ++ [(IntKind.u64.wrap (a0 + (pre.length : Int)), ⟨y0, y1, y2⟩, x2)]) ((X.drewN nq).setCell ⟨w7.heap.size, 0, none⟩ (.int .i64 ((pre.length : Int) + 1))) from fun nq =>
          ⟨(Leave.below (pw_below_drewN (Below.refl _ _) nq)).trans (Leave.set _ _ rfl), by
            have h := Boxed.set (.int .i64 ((pre.length : Int) + 1)) (show Boxed (X.drewN nq) w7.heap.size 3 (.int .i64 (pre.length : Int)) from hbi)
            rw [show ((pre ++ [(IntKind.u64.wrap (a0 + (pre.length : Int)), (⟨y0, y1, y2⟩ : Op04), x2)]).length : Int) = (pre.length : Int) + 1 by simp]
            exact h, below_set (pw_below_drewN hbl nq) (Nat.le_refl _)⟩)
        have p1 : (pre.length : Int) < (l.length : Int) := by omega
        have p2 : pre.length < l.length := by omega
        have d1' : decide (l.length ≤ pre.length) = false := decide_eq_false (by omega)
        have d2 : IntKind.u64.wrap (pre.length : Int) = (pre.length : Int) := by rw [Go.IntKind.wrap_u64]; omega
        have d1 : decide ((pre.length : Int) ≥ (l.length : Int)) = false := decide_eq_false (by omega)
        have d4 : pre.length ≤ 1048576 := by omega
        have d5 : (pre.length : Int) + 1 ≤ 1048577 := by omega
        clear hzx hs8 hi8 hpre hpa hpl hx2 hrd hbx hws hlg hpl2 hbl hr hX hBx hbi
        generalize pre.length = m at *
        unfold fr165
        gi_wp2
        refine region_quiet_round rfl (by kernel_rfl) (by kernel_rfl) (by kernel_rfl) ?_
        repeat (gi_big_quiet_step (fail))
        refine wpQuietIn_nil ?_
        intro _ hw'
        obtain ⟨nq, hw''⟩ := hw'
        subst hw''
        gi_wp2
        exact HNX.out nq
      case done =>
        rintro e X he hE hK
        obtain ⟨hbi, hbl⟩ : Boxed X w7.heap.size 3 (.int .i64 (l.length : Int)) ∧ Below w7.heap.size w7 X := by
          rcases hE with ⟨xs, rfl, h1, h2⟩ | ⟨pre, hp, h0⟩
          · exact ⟨by rw [HLG.out]; exact h1, h2⟩
          · exact h0.elim
        refine both_ways he ?_
        have HWYX := Aside0.mk (HWY7.out.later hbl)
        have ck1 := hbi.cell
        have ck2 := HWYX.out.o.cell
        have ck3 := HWYX.out.t.cell
        have ck4 := HWYX.out.t.frozen
        have HK := Aside0.mk hK
        have HS8 := Aside0.mk hs8
        have hsy := HWY7.out.below.size
        clear he hE hbi hbl hK
        gi_wp2
        have hle : w.heap.size + 1 + 1 < w8.heap.size := Nat.lt_of_lt_of_le HWY7.out.t.lt HB8.out.size
        have hk := (Below.heap_setCell X ⟨w.heap.size + 1 + 1, 0, none⟩ (.bool true) w8.heap.size (show w8.heap.size ≠ w.heap.size + 1 + 1 by omega)).trans HK.out
        have hb9 := below_set (j := 0) (v := .bool true) HWYX.out.below (show w.heap.size ≤ w.heap.size + 1 + 1 by omega)
        have ht9 := Boxed.set (.bool true) HWYX.out.t
        refine ⟨by simp, .inl ⟨_, _, rfl, run_takeDeferred hk, ?_⟩⟩
        exact ⟨_, results_c rfl _ _ (w.heap.size + 1 + 1) (.bool true) rfl (Boxed.cell (Boxed.kept ht9 (grownBy_putObj' _ _ _) (by simp; omega))) Try.underlying4, rfl, hb9.trans (belowK_b (w := w) (Nat.le_refl _) _ _ _ (.deferred none) (show w.heap.size ≤ w8.heap.size by omega) hk rfl rfl)⟩
theorem BatchWays_upto (w : World) (a0 : Int) (hg0 : (Lit.int .u64 a0).wf = true) (A1 : Option Addr) (c1 : Nat) (l1 : List S65) (hc1 : l1.length ≤ c1) (hr1 : Kd.C k65 w A1 l1.length l1) (hg1 : ∀ x ∈ l1, (Lit.int .i64 x.f0).wf = true ∧ x.f1.size ≤ maxLen ∧ x.f2.size ≤ maxLen)
    (hbulk : 1 + (sumBulk (fun x : S65 => 1 + (x.f1.size + 1) + (x.f2.size + 1) + 1) l1 + 1) ≤ 1048576) :
    Calls Try.prog 13 #[.int .u64 a0, .slice A1 l1.length c1] w fun e w' => e = .returned (.bool true) ∧ Below w.heap.size w w' := by
  have ha : 0 ≤ a0 ∧ a0 ≤ 18446744073709551615 := by simpa [Lit.wf, IntKind.min, IntKind.max, IntKind.signed, IntKind.bits] using hg0
  have hs := sane_of_bulk4 (l := l1) (by omega)
  have he := encode_eq (11 + l1.length) a0 l1 ha.1 hs (Nat.le_refl _)
  by_cases hz : (encR a0 l1).2 = 0
  · obtain ⟨_, _, e3⟩ := encR_ok hz
    rw [e3] at he
    exact ways_good a0 A1 c1 l1 w hc1 hr1 hs ha.1 (by omega) hz (encB a0 l1) rfl he
  · have e0 : encR a0 l1 = ([], (encR a0 l1).2) := by
      unfold encR at hz ⊢
      split
      · rename_i h1
        rw [if_pos h1] at hz
        split
        · rename_i h2; rw [if_pos h2] at hz; exact absurd rfl hz
        · rfl
      · rfl
    rw [e0] at he
    exact ways_bad a0 A1 c1 l1 w hc1 hr1 _ hz he

end Go.Proofs.Ythkooncibfkepaa.G
