/- Contracts of functions and plain laws, several texts of the session put together by its program. -/
import Derived.Test.YtmpkigambfghgaaDoorProg
import Derived.Below
import Derived.Deep.Draws
import Derived.Deep.AppendLies
import Derived.Maps.AppendAt
import Derived.OwnWalk
import Derived.Laws.BytesArg
import Derived.Laws.MakeOwn
import Derived.Laws.OwnMore
import Derived.Deep.OwnRows
import Derived.Tactics
import Derived.Lib.ConvBytes
import Derived.Laws.Slices
import Derived.WalkKit
import Derived.KernelRfl
import Derived.RowKit3
import Derived.Deep.LoopGhost
import Derived.Deep.QuietTactic
import Derived.BigQuiet
import Derived.WideLaws
import Derived.Deep.DeepCutAuto
import Derived.Deep.CutBlock
import Derived.Deep.RegionHeld3
import Derived.Laws.Rows
import Derived.Lib.AppendStr
import Derived.ArgAppend
import Derived.Laws.IdiomCopy
import Derived.OrdersHeld
import Derived.Laws.BitsLemmas
import Derived.RowKit
import Derived.Test.YtmpkigambfghgaaDoorWWords
import Derived.Test.YtmpkigambfghgaaDoorWLast
import Derived.Test.YtmpkigambfghgaaDoorWTab
import Derived.Test.YtmpkigambfghgaaDoorWFour
import Derived.Test.YtmpkigambfghgaaDoorWQPut
import Derived.Test.YtmpkigambfghgaaDoorWApart
import Derived.Test.YtmpkigambfghgaaDoorWArr
import Derived.Test.YtmpkigambfghgaaDoorWZeros
import Derived.Test.YtmpkigambfghgaaDoorWFoot
import Derived.Test.YtmpkigambfghgaaDoorWKept
import Derived.Test.YtmpkigambfghgaaDoorWShare
import Derived.Test.YtmpkigambfghgaaDoorWN
import Derived.Test.YtmpkigambfghgaaDoorWFootNe
import Derived.Test.YtmpkigambfghgaaDoorWAt
import Derived.Test.YtmpkigambfghgaaDoorWEqStruct
import Derived.Test.YtmpkigambfghgaaDoorWRepsOne
import Derived.Test.YtmpkigambfghgaaDoorWInv
import Derived.Test.YtmpkigambfghgaaDoorWInvWords
import Derived.Test.YtmpkigambfghgaaDoorWGuard
import Derived.Test.YtmpkigambfghgaaDoorWNEv
import Derived.Test.YtmpkigambfghgaaDoorWMore
import Derived.Test.YtmpkigambfghgaaDoorQ1
import Derived.Test.YtmpkigambfghgaaDoorQ2
import Derived.Test.YtmpkigambfghgaaDoorRows
import Derived.Deep.Slices
import Derived.Deep.Fields
import Derived.ChangeSame
import Derived.Deep.Strs
import Derived.Lib.SmallJoins

/- Contracts typed by hand: the law JournalReads: a block that may be, up to the rounds -/
namespace Go.Proofs.YtmpkigambfghgaaDoor.G
open Go.RowKit Go.Proofs.YtmpkigambfghgaaDoorW.PrintWords Go.Proofs.YtmpkigambfghgaaDoorW.PrintLast Go.Proofs.YtmpkigambfghgaaDoorW.PrintMore
attribute [local go_sem] max2_int min2_int max_two min_two max_three min_three max_four min_four
set_option linter.unusedVariables false
set_option linter.unusedSimpArgs false

/-! the law JournalReads: a block that may be, up to the rounds -/
open Go.Shelf
attribute [local go_sem] Oper.semAt_some
theorem rec_val {X : World} {B : Nat} {xs : List Yx} (h : Recs X B xs) (i : Nat) (hi : i < xs.length) : valY xs i = .slice (hdr (xs.map hdY) i).1 (hdr (xs.map hdY) i).2.1 (hdr (xs.map hdY) i).2.2 := by
  obtain ⟨A, c, e⟩ := Kd.R_slice (h.rows i hi)
  unfold hdr
  rw [List.getD_eq_getElem?_getD, List.getElem?_map]
  unfold valY at e ⊢
  rw [List.getD_eq_getElem?_getD] at e ⊢
  rw [List.getElem?_eq_getElem hi] at e ⊢
  simp only [Option.getD_some, Option.map_some] at e ⊢
  unfold hdY
  rw [e]
theorem sp_some : ∀ (d i k : Nat) (l : List Int), i + d = l.length → l.length ≤ 1099511627776 → ∃ r, morainelaw07_spoil.l0 (k + d + 1) l (i : Int) = some r
  | 0, i, k, l, hi, hl => ⟨l, by rw [morainelaw07_spoil.l0, if_neg (by omega)]⟩
  | d + 1, i, k, l, hi, hl => by
    obtain ⟨r, hr⟩ := sp_some d (i + 1) k (l.set i ((rd l (i : Int) + 1) % 256)) (by rw [List.length_set]; omega) (by rw [List.length_set]; exact hl)
    refine ⟨r, ?_⟩
    rw [show k + (d + 1) + 1 = (k + d + 1) + 1 by omega, morainelaw07_spoil.l0, if_pos (by omega), if_pos (by omega), Int.toNat_natCast, show wrap64 ((i : Int) + 1) = ((i + 1 : Nat) : Int) from (wr _ (by omega) (by omega)).trans (by omega)]
    exact hr
theorem sp_ex (l : List Int) (hl : l.length ≤ 1099511627776) : ∃ k r, morainelaw07_spoil.f k l = some r := by
  obtain ⟨r, hr⟩ := sp_some l.length 0 0 l (by omega) hl
  exact ⟨0 + l.length + 1, r, hr⟩
theorem ys_len {xs : List Yx} {outs : List (Nat × List Int)} (h : xs.map outY = outs) : xs.length = outs.length := by rw [← h, List.length_map]
theorem ys_get {xs : List Yx} {outs : List (Nat × List Int)} (h : xs.map outY = outs) (i : Nat) (hi : i < xs.length) : rd_T60 (outs.map recS) (i : Int) = ⟨(xs[i]'hi).2.1, ((xs[i]'hi).1 : Int)⟩ := by
  unfold rd_T60
  rw [Int.toNat_natCast, ← h, List.getD_eq_getElem?_getD, List.getElem?_map, List.getElem?_map, List.getElem?_eq_getElem hi]
  rfl
theorem ys_dat {xs : List Yx} {outs : List (Nat × List Int)} (h : xs.map outY = outs) (i : Nat) (hi : i < xs.length) : (rd_T60 (outs.map recS) (i : Int)).f0 = datY xs i := by
  rw [ys_get h i hi]
  unfold datY
  rw [List.getD_eq_getElem?_getD, List.getElem?_eq_getElem hi]
  rfl
theorem refend_eq {xs : List Yx} {outs : List (Nat × List Int)} (h : xs.map outY = outs) (hl : xs.length ≤ 1099511627776) : moraineref07_End.f (outs.map recS) = some (endY xs) := by
  have hn := ys_len h
  unfold moraineref07_End.f
  rw [List.length_map, ← hn]
  by_cases h0 : xs.length = 0
  · obtain rfl := List.eq_nil_of_length_eq_zero h0
    rw [if_pos (by simp)]
    rfl
  · rw [if_neg (by omega), wr _ (by omega) (by omega), if_pos (by omega), if_pos (by omega)]
    obtain ⟨m, hm⟩ : ∃ m, xs.length = m + 1 := ⟨xs.length - 1, by omega⟩
    rw [show ((xs.length : Int) - 1) = ((m : Nat) : Int) by omega, ys_get h m (by omega)]
    unfold endY
    rw [List.getLast?_eq_getElem?, show xs.length - 1 = m by omega, List.getElem?_eq_getElem (by omega)]
theorem R_only {e base : Nat} {W : World} {ok : Nat → Prop} {v : Value} {xs : List Int} (h : Kd.R (Kd.int .u8) e W base ok v xs) : Kd.R (Kd.int .u8) e W base (fun k => v.ownBlock = some k) v xs :=
  Kd.R_of_own (h1 := fun _ => rfl) (ok := fun k => v.ownBlock = some k) (Kd.own_of_R h) (fun _ h => h)
theorem R_chgo {e base : Nat} {W W' : World} {ok : Nat → Prop} {v : Value} {xs : List Int} (h : Kd.R (Kd.int .u8) e W base ok v xs) (hc : ∀ k, k < W.heap.size → v.ownBlock = some k → W'.heap[k]? = W.heap[k]?) : Kd.R (Kd.int .u8) e W' base ok v xs :=
  Kd.R_mono (Kd.R_step (R_only h) (fun k hk hlt => hc k hlt hk)) (fun k hk => h.1 k hk)
theorem H_only {e base : Nat} {W : World} {ok : Nat → Prop} {v : Value} {xs : List (Option Addr × Nat × Nat)} (h : Kd.R hdK e W base ok v xs) : Kd.R hdK e W base (fun k => v.ownBlock = some k) v xs :=
  Kd.R_of_own (h1 := fun _ => rfl) (ok := fun k => v.ownBlock = some k) (Kd.own_of_R h) (fun _ h => h)
theorem H_chgo {e base : Nat} {W W' : World} {ok : Nat → Prop} {v : Value} {xs : List (Option Addr × Nat × Nat)} (h : Kd.R hdK e W base ok v xs) (hc : ∀ k, k < W.heap.size → v.ownBlock = some k → W'.heap[k]? = W.heap[k]?) : Kd.R hdK e W' base ok v xs :=
  Kd.R_mono (Kd.R_step (H_only h) (fun k hk hlt => hc k hlt hk)) (fun k hk => h.1 k hk)
theorem S_up {w W : World} {base : Nat} {v : Value} {xs : List S60} (h : Kd.S k60 60 w base (fun _ => True) v xs) (hc : ∀ k, k < w.heap.size → base ≤ k → W.heap[k]? = w.heap[k]?) : Kd.S k60 60 W base (fun _ => True) v xs :=
  Kd.S_mono (Kd.S_step (Kd.S_bound h) (fun k hk hlt => hc k hlt hk.2.1)) (fun _ _ => trivial)
theorem Reads.small {blk : Nat} {f : List Int} {p : Nat} {d : List Int} {o : Bool} {l : List (Nat × List Int)} {how : Nat} (h : Reads blk f p d o l how) : ∀ x ∈ l, x.2.length ≤ 2097152 := by
  induction h with
  | pad p d o l h h1 h2 h3 h4 ih => exact ih
  | more p d o l h h1 h2 h3 h4 h5 h6 ih => exact ih
  | whole p d o l h h1 h2 h3 h4 h5 h6 ih =>
    intro x hx
    rcases List.mem_cons.1 hx with rfl | hx
    · unfold bentN at h4
      rw [Bool.or_eq_false_iff] at h4
      have h7 := of_decide_eq_false h4.2
      show (d ++ dataN f p).length ≤ 2097152
      rw [List.length_append]
      unfold dataN
      rw [List.length_take]
      omega
    · exact ih x hx
  | _ => intro x hx; cases hx
theorem dat_small {xs : List Yx} {outs : List (Nat × List Int)} (h : xs.map outY = outs) (hs : ∀ x ∈ outs, x.2.length ≤ 2097152) (i : Nat) (hi : i < xs.length) : (datY xs i).length ≤ 2097152 := by
  unfold datY
  rw [List.getD_eq_getElem?_getD, List.getElem?_eq_getElem hi]
  exact hs (outY xs[i]) (by rw [← h]; exact List.mem_map.2 ⟨xs[i], List.getElem_mem hi, rfl⟩)
/-- the blocks of the records' own bytes -/
def inRows (xs : List Yx) (b : Nat) : Prop := ∃ i, i < xs.length ∧ (valY xs i).ownBlock = some b
theorem below_step' {a b c : World} {x5 x2 x3 x4 x7 : Nat} (h : Below a.heap.size a b) (hz : a.heap.size ≤ x2 ∧ x2 ≤ x3 ∧ x3 ≤ x4 ∧ x4 ≤ x5 ∧ x5 < x7) (h8 : x5 < b.heap.size) (k : Below b.heap.size b c) : Below a.heap.size a c := below_step h k
set_option maxHeartbeats 64000000 in
set_option maxRecDepth 100000 in
theorem jreads_good (blk : Nat) (A0 : Option Addr) (c0 : Nat) (l0 : List Int) (stop : Int) (outs : List (Nat × List Int)) (how K : Nat) (w : World) (h1 : 32 ≤ blk) (h2 : blk ≤ 32768) (hr0 : Kd.C (Kd.int .u8) w A0 l0.length l0) (hc0 : l0.length ≤ c0) (hby : Byt l0) (hl : l0.length ≤ 1048576)
    (hrd : Reads blk l0 0 [] false outs how) (hrf : moraineref07_Read.f K (blk : Int) l0 = some (outs.map recS, (how : Int))) (hT : TabAt w) :
    Calls Tryd.prog 6 #[.int .i64 (blk : Int), .slice A0 l0.length c0, .int .i64 stop] w fun e w' => e = .returned (.bool true) ∧ Below w.heap.size w w' := by
  have HR := Aside0.mk hr0
  have HC := Aside0.mk hc0
  have HLN := Aside0.mk hl
  have HLN2 := Aside0.mk (show l0.length ≤ 140737488355000 by omega)
  have HBY := Aside0.mk hby
  have HRD := Aside0.mk hrd
  have HRF := Aside0.mk hrf
  have HT := Aside0.mk hT
  have HOL := Aside0.mk (show outs.length ≤ 1048576 by have := hrd.len; omega)
  have HBK := Aside0.mk (fun X => moraineref07_Block.calls (blk : Int) true X (by unfold moraineref07_Block.f; rw [if_pos (by omega)]; simp; omega))
  obtain ⟨W0, hW0⟩ : ∃ W0, (w.alloc (.cells #[.int .i64 stop] 3)).alloc (.cells #[.bool false] 4) = W0 := ⟨_, rfl⟩
  have hx1 : Boxed W0 (w.heap.size + 1) 4 (.bool false) := by
    have := Boxed.new (w.alloc (.cells #[.int .i64 stop] 3)) 4 (.bool false)
    rw [World.size_alloc] at this
    rw [← hW0]; exact this
  have hx0 : Boxed W0 w.heap.size 3 (.int .i64 stop) := by rw [← hW0]; exact (Boxed.new w 3 (.int .i64 stop)).alloc _
  have HB0 := Aside0.mk (show Below w.heap.size w W0 by rw [← hW0]; exact below_alloc (below_alloc (Below.refl _ _) _) _)
  have HT0 := Aside0.mk hx1
  have HE0 := Aside0.mk hx0
  have HW0 := Aside0.mk hW0
  clear hr0 hc0 hl hx1 hW0 hby hrd hrf hT hx0
  refine (callsIn_wide (n := 6)).1 ?_
  refine callsIn_of_wp_marks Tryd.func6 rfl trivial ?_ rfl
  simp only [Tryd.ntmps6, List.size_toArray, List.length_cons, List.length_nil, Nat.reduceAdd, Nat.reduceSub, Array.replicate_succ, Array.replicate_zero, List.push_toArray, List.append_toArray, List.nil_append, List.cons_append]
  refine wpIn_wide.2 ?_
  go_wp2_with fail
  rw [HW0.out]
  (with_reducible refine (morainelaw07_lent.calls A0 c0 l0 _ (Kd.C_below HR.out HB0.out) HC.out HLN2.out).mono ?_)
  rintro e w1 ⟨Ai, ci, rfl, ho, hb⟩
  obtain ⟨gi, ci2, egi, _⟩ := Kd.R_form ho (by simp)
  injection egi with egi1 egi2 egi3
  subst egi1
  subst egi3
  clear egi2
  have HIR := Aside0.mk (Kd.R_lower ho (base' := w.heap.size) HB0.out.size)
  have HI := Aside0.mk (show Kd.C (Kd.int .u8) w1 (some ⟨gi, 0, none⟩) l0.length l0 from C_prefix (ys := [90]) (by simpa using (Kd.R_reads' ho).2.2))
  have HIC := Aside0.mk (show l0.length ≤ ci by have := (Kd.R_reads' ho).2.1; omega)
  have HB1 := Aside0.mk (below_step HB0.out hb)
  have HT1 := Aside0.mk (show Boxed w1 (w.heap.size + 1) 4 (.bool false) from blk_below HT0.out hb)
  have HE1 := Aside0.mk (show Boxed w1 w.heap.size 3 (.int .i64 stop) from blk_below HE0.out hb)
  clear ho hb
  go_wp2_with fail
  (with_reducible refine (read_calls blk _ ci l0 _ outs how h1 h2 HI.out HIC.out HBY.out (by have := HLN.out; omega) (HT.out.below HB1.out) HRD.out).mono ?_)
  rintro e w2 ⟨v8, xs, rfl, hx, hv, hR, hb⟩
  have HX := Aside0.mk hx
  have HXN := Aside0.mk (ys_len hx)
  have HV8 := Aside0.mk hv
  have HR8 := Aside0.mk hR
  have HB12 := Aside0.mk hb
  have HI2 := Aside0.mk (Kd.C_below HI.out hb)
  have HB2 := Aside0.mk (below_step HB1.out hb)
  obtain ⟨A8, c8, rfl, hc8, _⟩ := Kd.R_reads hv
  clear hx hv hR hb
  go_wp2_with fail
  (with_reducible refine (read_calls blk _ ci l0 _ outs how h1 h2 HI2.out HIC.out HBY.out (by have := HLN.out; omega) (HT.out.below HB2.out) HRD.out).mono ?_)
  rintro e w3 ⟨v12, ys, rfl, hx, hv, hR, hb⟩
  have HY := Aside0.mk hx
  have HYN := Aside0.mk (ys_len hx)
  have HV12 := Aside0.mk hv
  have HR12 := Aside0.mk hR
  have HB23 := Aside0.mk hb
  have HI3 := Aside0.mk (Kd.C_below HI2.out hb)
  have HB3 := Aside0.mk (below_step HB2.out hb)
  obtain ⟨A12, c12, rfl, hc12, _⟩ := Kd.R_reads hv
  clear hx hv hR hb
  go_wp2_with fail
  (with_reducible refine (HBK.out _).mono ?_)
  rintro e w4 ⟨rfl, hd⟩
  have HB34 := Aside0.mk hd.below
  have HB4 := Aside0.mk (below_step HB3.out hd.below)
  clear hd
  go_wp2_with fail
  (with_reducible refine (moraineref07_Read.calls K (blk : Int) A0 c0 l0 _ _ w4 (Kd.C_below HR.out HB4.out) HC.out HRF.out).mono ?_)
  rintro e w5 ⟨v17, rfl, hs, hb⟩
  have HS := Aside0.mk hs
  have HB45 := Aside0.mk hb
  have HB5 := Aside0.mk (below_step HB4.out hb)
  obtain ⟨A17, c17, rfl, hc17, _⟩ := Kd.S_reads hs
  clear hs hb
  obtain ⟨n, hn⟩ : ∃ n, outs.length = n := ⟨_, rfl⟩
  have HN := Aside0.mk hn
  have e8 : xs.length = n := by rw [HXN.out, hn]
  have e12 : ys.length = n := by rw [HYN.out, hn]
  have e17 : (outs.map recS).length = n := by rw [List.length_map, hn]
  have E8 := Aside0.mk e8
  have E12 := Aside0.mk e12
  have E17 := Aside0.mk e17
  have hey : endY ys = endY xs := by
    have := (refend_eq HX.out (by have := HXN.out; have := HOL.out; omega)).symm.trans (refend_eq HY.out (by have := HYN.out; have := HOL.out; omega))
    exact (Option.some.inj this).symm
  obtain ⟨EV, hEV⟩ : ∃ EV, endY xs = EV := ⟨_, rfl⟩
  rw [e17] at hc17
  rw [List.length_map, e12] at hc12
  rw [List.length_map, e8] at hc8
  rw [e12, e8, hey, e17, hEV]
  obtain ⟨W6, hW6⟩ : ∃ W6, w5.alloc (.cells #[.slice A17 n c17] 55) = W6 := ⟨_, rfl⟩
  have HW6 := Aside0.mk hW6
  have HB56 := Aside0.mk (show Below w5.heap.size w5 W6 by rw [← hW6]; exact below_alloc (Below.refl _ _) _)
  have hx6 : Boxed W6 w5.heap.size 55 (.slice A17 n c17) := by rw [← hW6]; exact Boxed.new _ _ _
  have HX6 := Aside0.mk hx6
  have hq6 := hx6.cell
  rw [← hW6] at hq6
  have HEND := Aside0.mk (fun X (h : Below W6.heap.size W6 X) => by
    have := moraineref07_End.calls A17 c17 (outs.map recS) (endY xs) X (Kd.C_below (Kd.C_below (Kd.S_reads' HS.out).2.2 HB56.out) h) (by rw [e17]; exact hc17) (refend_eq HX.out (by have := HXN.out; have := HOL.out; omega))
    rw [e17, hEV] at this
    exact this)
  clear hn e8 e12 e17 hx6 hW6 hEV hey
  have HSM := Aside0.mk (fun i hi => dat_small HX.out HRD.out.small i hi)
  have hn6 : n ≤ 1048576 := by have := HOL.out; have := HN.out; omega
  have HM := Aside0.mk (show ∀ b, inRows xs b → w1.heap.size ≤ b ∧ b < w2.heap.size ∧ ∃ cells, w2.heap[b]? = some (.cells cells 5 (0, 0)) from fun b hb => by
    obtain ⟨i, hi, he⟩ := hb
    have hr := HR8.out.rows i hi
    exact ⟨Kd.R_base hr b he, Kd.R_lt hr b he, Kd.R_typed hr b he⟩)
  go_wp2_with fail
  rw [HW6.out]
  (with_reducible refine (HEND.out _ (Below.refl _ _)).mono ?_)
  rintro e w7 ⟨rfl, hd⟩
  have HB17 := Aside0.mk (show Below w1.heap.size w1 w7 from below_step (below_step (below_step (below_step (below_step HB12.out HB23.out) HB34.out) HB45.out) HB56.out) hd.below)
  have HB27 := Aside0.mk (show Below w2.heap.size w2 w7 from below_step (below_step (below_step (below_step HB23.out HB34.out) HB45.out) HB56.out) hd.below)
  have HB37 := Aside0.mk (show Below w3.heap.size w3 w7 from below_step (below_step (below_step HB34.out HB45.out) HB56.out) hd.below)
  have HB57 := Aside0.mk (show Below w5.heap.size w5 w7 from below_step HB56.out hd.below)
  have HX7 := Aside0.mk (bx_below HX6.out hd.below)
  have HZ := Aside0.mk (show w1.heap.size ≤ w2.heap.size ∧ w2.heap.size ≤ w3.heap.size ∧ w3.heap.size ≤ w4.heap.size ∧ w4.heap.size ≤ w5.heap.size ∧ w5.heap.size < w7.heap.size from ⟨HB12.out.size, HB23.out.size, HB34.out.size, HB45.out.size, HX7.out.lt⟩)
  have HF8 := Aside0.mk (fun X (hc : Chg (inRows xs) w7 X) => show hdK.C X A8 n (xs.map hdY) by
    have h1 : Kd.R hdK 22 X w1.heap.size (fun _ => True) (.slice A8 (xs.map hdY).length c8) (xs.map hdY) := H_chgo (Kd.R_below HV8.out HB27.out) (fun k hk he => hc.block k hk (fun hm => by
      obtain ⟨_, _, cells, hce⟩ := HM.out k hm
      obtain ⟨cells2, hce2⟩ := Kd.R_typed HV8.out k he
      rw [hce] at hce2
      injection hce2 with hce2
      injection hce2 with _ h2 _
      exact absurd h2 (by decide)))
    have h2 := (Kd.R_reads' h1).2.2
    rw [List.length_map, E8.out] at h2
    exact h2)
  have HFS := Aside0.mk (fun X (hc : Chg (inRows xs) w7 X) => show Kd.C k60 X A17 n (outs.map recS) by
    have h1 := S_up (Kd.S_below HS.out HB57.out) (fun k hk hbk => hc.block k hk (fun hm => by have := HM.out k hm; have := HZ.out; omega))
    have h2 := (Kd.S_reads' h1).2.2
    rw [E17.out] at h2
    exact h2)
  have HFX := Aside0.mk (fun X (hc : Chg (inRows xs) w7 X) => show Boxed X w5.heap.size 55 (.slice A17 n c17) from (hc.block _ HX7.out.lt (fun hm => by have := HM.out _ hm; have := HZ.out; omega)).trans HX7.out)
  have HR7 := Aside0.mk (fun i (hi : i < xs.length) => Kd.R_below (HR8.out.rows i hi) HB27.out)
  have hq7 := HX7.out.cell
  clear hd hq6 HB56 HX6 HEND HW6
  go_wp2_with fail
  go_loopw [19] (fun v19 wr => ∃ (k : Nat), v19 = .int .i64 (k : Int) ∧ k ≤ n ∧ Aside0 (Chg (inRows xs) w7 wr) ∧ Aside0 (∀ i, k ≤ i → i < n → Kd.R (Kd.int .u8) 5 wr w1.heap.size (fun _ => True) (valY xs i) (datY xs i))) (fun v19 _ => n - (intOf v19).toNat)
  case atStart => exact ⟨0, rfl, by omega, ⟨Chg.refl _ _⟩, ⟨fun i _ hi => HR7.out i (by rw [E8.out]; exact hi)⟩⟩
  case round =>
    obtain ⟨k, rfl, hkn, HCH, HRW⟩ := hrel
    have hq8 := (HFX.out wr HCH.out).cell
    by_cases hlt : k < n
    · have b1 : decide ((k : Int) < (n : Int)) = true := decide_eq_true (by omega)
      have hkx : k < xs.length := by rw [E8.out]; exact hlt
      have hrow := HRW.out k (Nat.le_refl _) hlt
      obtain ⟨ad8, e8, q8⟩ := hd_at (HF8.out wr HCH.out) k hlt
      cases e8
      obtain ⟨adw, Aw, cw, ew, p0, p1, pl, pc⟩ := at_T60 (HFS.out wr HCH.out) (k : Int) (by omega) (by omega)
      cases ew
      rw [ys_dat HX.out k hkx] at p0 pl pc
      rw [Int.toNat_natCast] at p0 p1
      have hvr := rec_val HR8.out k hkx
      obtain ⟨y, hy⟩ : ∃ y, hdr (xs.map hdY) k = y := ⟨_, rfl⟩
      rw [hy] at q8 hvr
      obtain ⟨ya, yn, yc⟩ := y
      dsimp only at q8 hvr
      have HVR := Aside0.mk hvr
      rw [hvr] at hrow
      have HROW := Aside0.mk hrow
      have hcv1 := fun (j : Nat) => own_string (P := Tryd.prog) Tryd.underlying22 Tryd.underlying5 Tryd.underlying9 (Kd.own_of_R (Kd.R_below hrow (pw_below_drewN (Below.refl wr.heap.size wr) j)))
      have hcv1' := own_string (P := Tryd.prog) Tryd.underlying22 Tryd.underlying5 Tryd.underlying9 (Kd.own_of_R hrow)
      have hcv2 := fun (j : Nat) => Kd.C_string (P := Tryd.prog) (c := cw) Tryd.underlying22 Tryd.underlying5 Tryd.underlying9 (Kd.C_below pc (pw_below_drewN (Below.refl wr.heap.size wr) j))
      have hcv2' := Kd.C_string (P := Tryd.prog) (c := cw) Tryd.underlying22 Tryd.underlying5 Tryd.underlying9 pc
      obtain ⟨K2, r, hsp⟩ := sp_ex (datY xs k) (by have := HSM.out k hkx; omega)
      have HSP := Aside0.mk hsp
      obtain ⟨D, hD⟩ : ∃ D, datY xs k = D := ⟨_, rfl⟩
      rw [hD] at hcv1 hcv1' hcv2 hcv2' p0 HSP HROW
      generalize strOfNums D = T at hcv1 hcv1' hcv2 hcv2'
      generalize D.length = DL at p0 hcv2 hcv2'
      clear hy hsp hvr hrow pl pc hD hq7
      go_wp2
      go_quiet (fail)
      all_goals go_wp2_with fail
      have hbw := below_chg HB17.out HCH.out (fun b hb => (HM.out b hb).1)
      (with_reducible refine (morainelaw07_spoil.calls K2 (fun b => (Value.slice ya yn yc).ownBlock = some b) (.slice ya yn yc) D r w1 _ (pw_below_drewN hbw _) (Kd.R_below (R_only HROW.out) (pw_below_drewN (Below.refl _ _) _)) HSP.out).mono ?_)
      rintro e w8 ⟨rfl, _, hb8, hk8⟩
      have HCH2 := Aside0.mk (show Chg (inRows xs) w7 w8 from ⟨hb8.os.trans HB17.out.os.symm, hb8.tape.trans HB17.out.tape.symm, hb8.output.trans HB17.out.output.symm, Nat.le_trans HCH.out.size hk8.1, fun b hb hn =>
        (hk8.2 b (Nat.lt_of_lt_of_le hb HCH.out.size) (fun ho => hn ⟨k, hkx, by rw [HVR.out]; exact ho⟩)).trans (HCH.out.block b hb hn)⟩)
      have HRW2 := Aside0.mk (fun i (hi1 : k + 1 ≤ i) (hi2 : i < n) => show Kd.R (Kd.int .u8) 5 w8 w1.heap.size (fun _ => True) (valY xs i) (datY xs i) from
        R_chgo (HRW.out i (by omega) hi2) (fun b hb he => hk8.2 b hb (fun ho => HR8.out.apart k i (by omega) (by rw [E8.out]; exact hi2) b (by rw [HVR.out]; exact ho) he)))
      clear hb8 hk8 hbw hcv1 hcv1' hcv2 hcv2' p0 p1 q8 hq8
      go_wp2
      go_roundw
      case rel => exact ⟨k + 1, by go_num, by omega, HCH2, HRW2⟩
      case measure => simp only [intOf]; omega
    · obtain rfl : k = n := by omega
      obtain ⟨W8, rfl⟩ : ∃ x, x = wr := ⟨wr, rfl⟩
      have b1 : decide ((k : Int) < (k : Int)) = false := decide_eq_false (by omega)
      have HF8b := Aside0.mk (show hdK.C W8 A12 k (ys.map hdY) by
        have h1 : Kd.R hdK 22 W8 w2.heap.size (fun _ => True) (.slice A12 (ys.map hdY).length c12) (ys.map hdY) := H_chgo (Kd.R_below HV12.out HB37.out) (fun b hb he => HCH.out.block b hb (fun hm => by have := HM.out b hm; have := Kd.R_base HV12.out b he; omega))
        have h2 := (Kd.R_reads' h1).2.2
        rw [List.length_map, E12.out] at h2
        exact h2)
      have HFSb := Aside0.mk (HFS.out W8 HCH.out)
      have HFXb := Aside0.mk (HFX.out W8 HCH.out)
      have HR12b := Aside0.mk (fun i (hi : i < ys.length) => show Kd.R (Kd.int .u8) 5 W8 w2.heap.size (fun _ => True) (valY ys i) (datY ys i) from
        R_chgo (Kd.R_below (HR12.out.rows i hi) HB37.out) (fun b hb he => HCH.out.block b hb (fun hm => by have := HM.out b hm; have := Kd.R_base (HR12.out.rows i hi) b he; omega)))
      have HB18 := Aside0.mk (below_chg HB17.out HCH.out (fun b hb => (HM.out b hb).1))
      have HZ8 := Aside0.mk (show w5.heap.size < W8.heap.size from HFXb.out.lt)
      clear HRW hq7
      go_wp2
      go_loopw [20] (fun v20 wr => ∃ (j : Nat), v20 = .int .i64 (j : Int) ∧ j ≤ k ∧ Aside0 (Below W8.heap.size W8 wr)) (fun v20 _ => k - (intOf v20).toNat)
      case atStart => exact ⟨0, rfl, by omega, ⟨Below.refl _ _⟩⟩
      case round =>
        obtain ⟨j, rfl, hjn, HB⟩ := hrel
        have hq9 := Boxed.cell (show Boxed wr w5.heap.size 55 (.slice A17 k c17) from blk_below HFXb.out HB.out)
        by_cases hlt : j < k
        · have b2 : decide ((j : Int) < (k : Int)) = true := decide_eq_true (by omega)
          have hjy : j < ys.length := by rw [E12.out]; exact hlt
          have hrow := Kd.R_below (HR12b.out j hjy) HB.out
          obtain ⟨ad12, e12, q12⟩ := hd_at (Kd.C_below HF8b.out HB.out) j hlt
          cases e12
          obtain ⟨adw, Aw, cw, ew, p0, p1, pl, pc⟩ := at_T60 (Kd.C_below HFSb.out HB.out) (j : Int) (by omega) (by omega)
          cases ew
          rw [ys_dat HY.out j hjy] at p0 pl pc
          rw [Int.toNat_natCast] at p0 p1
          have hvr := rec_val HR12.out j hjy
          obtain ⟨y, hy⟩ : ∃ y, hdr (ys.map hdY) j = y := ⟨_, rfl⟩
          rw [hy] at q12 hvr
          obtain ⟨ya, yn, yc⟩ := y
          dsimp only at q12 hvr
          rw [hvr] at hrow
          have hcv1 := fun (m : Nat) => own_string (P := Tryd.prog) Tryd.underlying22 Tryd.underlying5 Tryd.underlying9 (Kd.own_of_R (Kd.R_below hrow (pw_below_drewN (Below.refl wr.heap.size wr) m)))
          have hcv1' := own_string (P := Tryd.prog) Tryd.underlying22 Tryd.underlying5 Tryd.underlying9 (Kd.own_of_R hrow)
          have hcv2 := fun (m : Nat) => Kd.C_string (P := Tryd.prog) (c := cw) Tryd.underlying22 Tryd.underlying5 Tryd.underlying9 (Kd.C_below pc (pw_below_drewN (Below.refl wr.heap.size wr) m))
          have hcv2' := Kd.C_string (P := Tryd.prog) (c := cw) Tryd.underlying22 Tryd.underlying5 Tryd.underlying9 pc
          obtain ⟨D, hD⟩ : ∃ D, datY ys j = D := ⟨_, rfl⟩
          rw [hD] at hcv1 hcv1' hcv2 hcv2' p0
          generalize strOfNums D = T at hcv1 hcv1' hcv2 hcv2'
          generalize D.length = DL at p0 hcv2 hcv2'
          clear hy hvr hrow pl pc hD
          go_wp2
          go_quiet (fail)
          all_goals go_wp2
          go_roundw
          case rel => exact ⟨j + 1, by go_num, by omega, ⟨pw_below_drewN HB.out _⟩⟩
          case measure => simp only [intOf]; omega
        · obtain rfl : j = k := by omega
          obtain ⟨W9, rfl⟩ : ∃ x, x = wr := ⟨wr, rfl⟩
          have b2 : decide ((j : Int) < (j : Int)) = false := decide_eq_false (by omega)
          have HB19 := Aside0.mk (below_step' HB18.out HZ.out HZ8.out HB.out)
          go_wp2_with fail
          (with_reducible refine (jall_calls gi ci (blk : Int) l0 _ (Kd.C_below HI.out HB19.out) HLN2.out).mono ?_)
          rintro e wA ⟨Bb, Bo, v, rfl, hB1, hB2, hBb, hBo, hOwn, hbA⟩
          obtain ⟨Av, cv, rfl, hcv, hCv⟩ := Kd.R_reads hOwn
          have HB9A := Aside0.mk (below_step HB.out hbA)
          have HB1A := Aside0.mk (below_step HB19.out hbA)
          have HBA := Aside0.mk (below_step HB1.out HB1A.out)
          have HEA := Aside0.mk (show Boxed wA w.heap.size 3 (.int .i64 stop) from blk_below HE1.out HB1A.out)
          have HTA := Aside0.mk (show Boxed wA (w.heap.size + 1) 4 (.bool false) from blk_below HT1.out HB1A.out)
          have HXA := Aside0.mk (show Boxed wA w5.heap.size 55 (.slice A17 j c17) from blk_below HFXb.out HB9A.out)
          have HWA := Aside0.mk (Kd.C_below HFSb.out HB9A.out)
          have HIA := Aside0.mk (show Kd.C (Kd.int .u8) wA (some ⟨gi, 0, none⟩) (l0.length + 1) (l0 ++ [90]) by simpa using (Kd.R_reads' (Kd.R_below HIR.out HB1A.out)).2.2)
          have HIAC := Aside0.mk (show l0.length + 1 ≤ ci by simpa using (Kd.R_reads' HIR.out).2.1)
          have HFA := Aside0.mk (Kd.C_below HR.out HBA.out)
          have HBB := Aside0.mk hBb
          have HBO := Aside0.mk hBo
          have HOC := Aside0.mk hCv
          have HCV := Aside0.mk hcv
          have HTT := Aside0.mk (HT.out.below HBA.out)
          have HL3 := Aside0.mk (show l0.length ≤ 1099511627776 by have := HLN.out; omega)
          have HNM := Aside0.mk (fun X => morainelaw07_names.calls true X rfl)
          have HKP := Aside0.mk (fun X (h : Below wA.heap.size wA X) => morainelaw07_kept.calls (some ⟨gi, 0, none⟩) ci l0 A0 c0 X (Kd.C_below HIA.out h) HIAC.out (Kd.C_below HFA.out h) HLN2.out)
          have hcmp : ∀ (lb : Array Value) (X : World), (binOp .eql 53 (.func (.func 36) #[] lb) .nilFunc).run Tryd.prog X = .ok (.bool false) X := by
            intro lb X
            first | rfl | (simp [binOp, go_sem]; done) | (unfold binOp; simp [go_sem, Tryd.underlying53]; done)
          clear hB1 hB2 hBb hBo hOwn hbA hcv hCv
          go_wp2_with fail
          clear hcmp
          obtain ⟨W10, hW10⟩ : ∃ W10, wA.alloc (.cells #[.int .i64 0] 3) = W10 := ⟨_, rfl⟩
          have HRB := Aside0.mk (show Boxed W10 wA.heap.size 3 (.int .i64 0) by rw [← hW10]; exact Boxed.new _ _ _)
          have HBW := Aside0.mk (show Below wA.heap.size wA W10 by rw [← hW10]; exact below_alloc (Below.refl _ _) _)
          have HBR0 := Aside0.mk (Nat.le_refl wA.heap.size)
          rw [hW10]
          clear hW10
          obtain ⟨R0, hR0⟩ : ∃ R0, wA.heap.size = R0 := ⟨_, rfl⟩
          have HR0 := Aside0.mk hR0
          have HRZ := Aside0.mk (show wA.heap.size ≤ R0 by omega)
          rw [hR0] at HRB ⊢
          clear hR0
          refine (wpIn_wide (n := 6)).1 ?_
          refine wpIn_loop_rounds 3 ?_
          rw [roundsIn_succ]
          have cr0 := HRB.out.cell
          gi_wp2_with fail
          obtain ⟨Y0, hY0⟩ : ∃ Y, W10.alloc (.cells #[.int .i64 0] 3) = Y := ⟨_, rfl⟩
          have z0 : Y0.heap.size = W10.heap.size + 1 := by rw [← hY0, World.size_alloc]
          have hb0 : Below W10.heap.size W10 Y0 := by rw [← hY0]; exact below_alloc (Below.refl _ _) _
          have hi0 : Boxed Y0 W10.heap.size 3 (.int .i64 0) := by rw [← hY0]; exact Boxed.new _ _ _
          have HBY0 := Aside0.mk (show Below wA.heap.size wA Y0 from below_step HBW.out hb0)
          have hwz0 : wA.heap.size ≤ W10.heap.size := HBW.out.size
          rw [hY0]
          clear hY0 cr0
          refine range_st3b (n := 6) 8 (by decide) (gf := 36) (lb := #[.pointer (some ⟨Bb, 0, none⟩), .pointer (some ⟨Bo, 0, none⟩)]) rfl (enters_of Tryd.func36 (by kernel_rfl) rfl) (fun _ => rfl)
            (jall1_seq (6 - 1) Bb Bo blk Av cv l0 wA Y0 (fun b => b = W10.heap.size) outs how h1 h2 (bx_below HBB.out HBY0.out) (bx_below HBO.out HBY0.out) HOC.out HCV.out HBY.out HL3.out HBY0.out HTT.out (fun b hb => by subst hb; omega) HRD.out)
            (jrI W10) (fun pre X => (pre.length : Int) = stop ∧ jrI W10 pre X) (jrI_own _ _ (by omega)) (fun s X Y row hs hg hr => ⟨hs.1, jrI_own _ _ (by omega) s X Y row hs.2 hg hr⟩) (fun s X Y hs hc => jrI_chg hs (by omega) hc) (fun s X Y hs hc => ⟨hs.1, jrI_chg hs.2 (by omega) hc⟩)
            (fun x X Z row h hg hr => R_others rfl h hg (fun r e => (hr r e).2)) (fun _ _ _ _ h _ => h) ⟨hi0, hb0⟩ (fun x => _) (fun l x A K hK => by simp only [encY]; gi_wp2; exact hK) ?body ?fin
          case body =>
            rintro l' pre ⟨p, d, v, N⟩ X hl' hsz hI hNx hok hsp
            have hok' : Kd.R (Kd.int .u8) 5 X N (fun _ => True) v d := hok
            have hNx' : Y0.heap.size + 3 ≤ N := hNx
            obtain ⟨Axx, cx, rfl⟩ := Kd.R_slice hok'
            obtain ⟨ho1, ho2, hrd⟩ := yx_at hsp
            have hbA := below_step HBW.out hI.2
            have hmn : pre.length < j := by rw [← HN.out]; exact ho2
            obtain ⟨adw, Aw, cw, ew, p0, p1, pl, pc⟩ := at_T60 (Kd.C_below HWA.out hbA) (pre.length : Int) (by omega) (by omega)
            rw [hrd] at p0 p1 pl pc
            rw [Int.toNat_natCast] at p0 p1
            dsimp only at p0 p1 pl pc
            have ck1 := hI.1.cell
            have ck2 := hI.1.frozen
            have ck17 := (show Boxed X w5.heap.size 55 (.slice A17 j c17) from blk_below HXA.out hbA).cell
            have hcv1 := fun (m : Nat) => own_string (P := Tryd.prog) Tryd.underlying22 Tryd.underlying5 Tryd.underlying9 (Kd.own_of_R (Kd.R_below hok' (pw_below_drewN (Below.refl X.heap.size X) m)))
            have hcv1' := own_string (P := Tryd.prog) Tryd.underlying22 Tryd.underlying5 Tryd.underlying9 (Kd.own_of_R hok')
            have hcv2 := fun (m : Nat) => Kd.C_string (P := Tryd.prog) (c := cw) Tryd.underlying22 Tryd.underlying5 Tryd.underlying9 (Kd.C_below pc (pw_below_drewN (Below.refl X.heap.size X) m))
            have hcv2' := Kd.C_string (P := Tryd.prog) (c := cw) Tryd.underlying22 Tryd.underlying5 Tryd.underlying9 pc
            subst ew
            obtain ⟨K2, r2, hsp2⟩ := sp_ex d (by have := HRD.out.small _ (List.mem_of_getElem? ho1); dsimp only at this; omega)
            have HSP2 := Aside0.mk hsp2
            have HI := Aside0.mk hI
            have HIB := Aside0.mk hI.2
            have HOK := Aside0.mk hok'
            have HNX := Aside0.mk hNx'
            have HBX := Aside0.mk hbA
            have HRX := Aside0.mk (show Boxed X R0 3 (.int .i64 0) from blk_below HRB.out hI.2)
            have hlx : ((pre ++ [((p, d, Value.slice Axx d.length cx, N) : Yx)]).length : Int) = (pre.length : Int) + 1 := by simp
            have HLX := Aside0.mk hlx
            have d1 : decide ((pre.length : Int) ≥ (j : Int)) = false := decide_eq_false (by omega)
            have d1' : decide (j ≤ pre.length) = false := decide_eq_false (by omega)
            have q1 : (pre.length : Int) < (j : Int) := by omega
            have hj6 : j ≤ 1048576 := hn6
            have d3 : wrap64 ((pre.length : Int) + 1) = (pre.length : Int) + 1 := by unfold wrap64; omega
            have HD3 := Aside0.mk d3
            obtain ⟨T, hTT⟩ : ∃ T, strOfNums d = T := ⟨_, rfl⟩
            rw [hTT] at hcv1 hcv1' hcv2 hcv2'
            have HM0 := Aside0.mk (fun (nq : Nat) (w8 : World) (hb8 : Below W10.heap.size W10 w8) (hk8 : Kept (X.drewN nq) w8 (fun b => (Value.slice Axx d.length cx).ownBlock = some b)) => jr_after (p := 0) nq hI hok' hNx' z0 hb8 hk8 (p, d, Value.slice Axx d.length cx, N))
            clear hl' hsz hI hNx hok hsp hok' hNx' ho1 ho2 hrd hbA hmn pl pc hsp2 hlx d3 hTT hn6 hb0 hi0 hj6
            obtain ⟨m, hm⟩ : ∃ m, pre.length = m := ⟨_, rfl⟩
            have HMM := Aside0.mk hm
            rw [hm] at ck1 d1 d1' q1 p0 p1
            clear hm
            gi_wp2
            refine region_quiet_round rfl (by kernel_rfl) (by kernel_rfl) (by kernel_rfl) ?_
            repeat (gi_big_quiet_step (fail))
            refine wpQuietIn_nil ?_
            intro _ hw'
            obtain ⟨nq, hw''⟩ := hw'
            subst hw''
            gi_wp2_with fail
            refine ⟨trivial, ?_⟩
            (with_reducible refine (CallsIn.inRound l' (callsIn_wide.2 (morainelaw07_spoil.calls K2 (fun b => (Value.slice Axx d.length cx).ownBlock = some b) (.slice Axx d.length cx) d r2 W10 (X.drewN nq) (pw_below_drewN HIB.out nq) (Kd.R_lower (Kd.R_below (R_only HOK.out) (pw_below_drewN (Below.refl _ _) nq)) (by have := HNX.out; omega)) HSP2.out))).mono ?_)
            rintro e w8 ⟨rfl, _, hb8, hk8⟩
            obtain ⟨hbx8, hfin⟩ := HM0.out nq w8 hb8 hk8
            rw [HMM.out] at hbx8 hfin
            have HFIN := Aside0.mk hfin
            have cy1 := hbx8.cell
            have cy2 := hbx8.frozen
            have ny1 : R0 ≠ W10.heap.size := by have := HRB.out.lt; omega
            have ny2 : w.heap.size ≠ W10.heap.size := by have := HEA.out.lt; omega
            have hrb8 : Boxed w8 R0 3 (.int .i64 0) := blk_below HRB.out hb8
            have heb8 : Boxed w8 w.heap.size 3 (.int .i64 stop) := blk_below HEA.out (below_step HBW.out hb8)
            have cy3 : ∀ v, (w8.setCell ⟨W10.heap.size, 0, none⟩ v).cell? ⟨R0, 0, none⟩ = some (.int .i64 0) := fun v => Boxed.cell (hrb8.other ny1 v)
            have cy4 : ∀ v, (w8.setCell ⟨W10.heap.size, 0, none⟩ v).cell? ⟨w.heap.size, 0, none⟩ = some (.int .i64 stop) := fun v => Boxed.cell (heb8.other ny2 v)
            have cy5 : ∀ v, (w8.setCell ⟨W10.heap.size, 0, none⟩ v).cell? ⟨W10.heap.size, 0, none⟩ = some v := fun v => Boxed.cell (Boxed.set v hbx8)
            have d3 := HD3.out
            rw [HMM.out] at d3
            clear hfin hbx8 hb8 hk8 hrb8 heb8 hcv1 hcv1' hcv2 hcv2' p0 p1 ck1 ck2 ck17
            by_cases hbr : (m : Int) + 1 = stop
            · have q2 : ((m : Int) + 1 == stop) = true := by simpa using hbr
              have HBR := Aside0.mk hbr
              clear hbr
              gi_wp2
              exact ⟨HFIN.out.1, HFIN.out.2.1, rfl, by rw [HLX.out, HMM.out]; exact HBR.out, HFIN.out.2.2⟩
            · have q2 : ((m : Int) + 1 == stop) = false := by simpa using hbr
              clear hbr
              gi_wp2
              exact HFIN.out
          case fin =>
            rintro D e X he hD hE hK
            obtain ⟨cnt, hbi, hbl, hcn⟩ : ∃ cnt : Nat, Boxed X W10.heap.size 3 (.int .i64 (cnt : Int)) ∧ Below W10.heap.size W10 X ∧ (cnt = j ∨ (0 : Int) = 0 ∧ (cnt : Int) = stop) := by
              rcases hE with ⟨xs2, g1, g2⟩ | ⟨pre, hp, g0, g1⟩
              · exact ⟨_, g2.1, g2.2, .inl (by rw [← HN.out, ← ys_len g1])⟩
              · exact ⟨_, g1.1, g1.2, .inr ⟨rfl, g0⟩⟩
            refine both_ways he ?_
            have HBX := Aside0.mk (below_step HBW.out hbl)
            have HKD0 := Aside0.mk hK
            have HDZ0 := Aside0.mk (show W10.heap.size < D by omega)
            have ck1 := hbi.cell
            have ck2 := (show Boxed X R0 3 (.int .i64 0) from blk_below HRB.out hbl).cell
            have ck3 := (show Boxed X w5.heap.size 55 (.slice A17 j c17) from blk_below HXA.out HBX.out).cell
            have ck4 := (show Boxed X w.heap.size 3 (.int .i64 stop) from blk_below HEA.out HBX.out).cell
            have HDD0 := Aside0.mk (rfl : D = D)
            obtain ⟨D0, rfl⟩ : ∃ x, x = D := ⟨D, rfl⟩
            clear he hE hbi hK hD hi0 hb0
            by_cases hc : cnt = j
            · have hc' : j = cnt := hc.symm
              subst hc'
              clear hcn hc
              gi_wp2
              obtain ⟨W11, hW11⟩ : ∃ W, X.alloc (.cells #[.int .i64 1] 3) = W := ⟨_, rfl⟩
              have hbn : Below X.heap.size X W11 := by rw [← hW11]; exact below_alloc (Below.refl _ _) _
              have HRB := Aside0.mk (show Boxed W11 X.heap.size 3 (.int .i64 1) by rw [← hW11]; exact Boxed.new _ _ _)
              have HBW := Aside0.mk (below_step HBX.out hbn)
              have HKD0 := Aside0.mk (blk_below HKD0.out hbn)
              rw [hW11]
              have HRZ := Aside0.mk (show wA.heap.size ≤ X.heap.size from HBX.out.size)
              clear hW11 hbn ck1 ck2 ck3 ck4 hbl HBX
              obtain ⟨R1, hR1⟩ : ∃ R, X.heap.size = R := ⟨_, rfl⟩
              rw [hR1] at HRB HRZ ⊢
              clear hR1
              rw [roundsIn_succ]
              have cr1 := HRB.out.cell
              gi_wp2_with fail
              obtain ⟨Y1, hY1⟩ : ∃ Y, W11.alloc (.cells #[.int .i64 0] 3) = Y := ⟨_, rfl⟩
              have z1 : Y1.heap.size = W11.heap.size + 1 := by rw [← hY1, World.size_alloc]
              have hb1 : Below W11.heap.size W11 Y1 := by rw [← hY1]; exact below_alloc (Below.refl _ _) _
              have hi1 : Boxed Y1 W11.heap.size 3 (.int .i64 0) := by rw [← hY1]; exact Boxed.new _ _ _
              have HBY1 := Aside0.mk (show Below wA.heap.size wA Y1 from below_step HBW.out hb1)
              have hwz1 : wA.heap.size ≤ W11.heap.size := HBW.out.size
              rw [hY1]
              clear hY1 cr1
              refine range_st3b (n := 6) 8 (by decide) (gf := 36) (lb := #[.pointer (some ⟨Bb, 0, none⟩), .pointer (some ⟨Bo, 0, none⟩)]) rfl (enters_of Tryd.func36 (by kernel_rfl) rfl) (fun _ => rfl)
                (jall1_seq (6 - 1) Bb Bo blk Av cv l0 wA Y1 (fun b => b = W11.heap.size) outs how h1 h2 (bx_below HBB.out HBY1.out) (bx_below HBO.out HBY1.out) HOC.out HCV.out HBY.out HL3.out HBY1.out HTT.out (fun b hb => by subst hb; omega) HRD.out)
                (jrI W11) (fun pre X => False ∧ jrI W11 pre X) (jrI_own _ _ (by omega)) (fun s X Y row hs hg hr => ⟨hs.1, jrI_own _ _ (by omega) s X Y row hs.2 hg hr⟩) (fun s X Y hs hc => jrI_chg hs (by omega) hc) (fun s X Y hs hc => ⟨hs.1, jrI_chg hs.2 (by omega) hc⟩)
                (fun x X Z row h hg hr => R_others rfl h hg (fun r e => (hr r e).2)) (fun _ _ _ _ h _ => h) ⟨hi1, hb1⟩ (fun x => _) (fun l x A K hK => by simp only [encY]; gi_wp2; exact hK) ?body ?fin
              case body =>
                rintro l' pre ⟨p, d, v, N⟩ X hl' hsz hI hNx hok hsp
                have hok' : Kd.R (Kd.int .u8) 5 X N (fun _ => True) v d := hok
                have hNx' : Y1.heap.size + 3 ≤ N := hNx
                obtain ⟨Axx, cx, rfl⟩ := Kd.R_slice hok'
                obtain ⟨ho1, ho2, hrd⟩ := yx_at hsp
                have hbA := below_step HBW.out hI.2
                have hmn : pre.length < j := by rw [← HN.out]; exact ho2
                obtain ⟨adw, Aw, cw, ew, p0, p1, pl, pc⟩ := at_T60 (Kd.C_below HWA.out hbA) (pre.length : Int) (by omega) (by omega)
                rw [hrd] at p0 p1 pl pc
                rw [Int.toNat_natCast] at p0 p1
                dsimp only at p0 p1 pl pc
                have ck1 := hI.1.cell
                have ck2 := hI.1.frozen
                have ck17 := (show Boxed X w5.heap.size 55 (.slice A17 j c17) from blk_below HXA.out hbA).cell
                have hcv1 := fun (m : Nat) => own_string (P := Tryd.prog) Tryd.underlying22 Tryd.underlying5 Tryd.underlying9 (Kd.own_of_R (Kd.R_below hok' (pw_below_drewN (Below.refl X.heap.size X) m)))
                have hcv1' := own_string (P := Tryd.prog) Tryd.underlying22 Tryd.underlying5 Tryd.underlying9 (Kd.own_of_R hok')
                have hcv2 := fun (m : Nat) => Kd.C_string (P := Tryd.prog) (c := cw) Tryd.underlying22 Tryd.underlying5 Tryd.underlying9 (Kd.C_below pc (pw_below_drewN (Below.refl X.heap.size X) m))
                have hcv2' := Kd.C_string (P := Tryd.prog) (c := cw) Tryd.underlying22 Tryd.underlying5 Tryd.underlying9 pc
                subst ew
                obtain ⟨K2, r2, hsp2⟩ := sp_ex d (by have := HRD.out.small _ (List.mem_of_getElem? ho1); dsimp only at this; omega)
                have HSP2 := Aside0.mk hsp2
                have HI := Aside0.mk hI
                have HIB := Aside0.mk hI.2
                have HOK := Aside0.mk hok'
                have HNX := Aside0.mk hNx'
                have HBX := Aside0.mk hbA
                have HRX := Aside0.mk (show Boxed X R1 3 (.int .i64 1) from blk_below HRB.out hI.2)
                have hlx : ((pre ++ [((p, d, Value.slice Axx d.length cx, N) : Yx)]).length : Int) = (pre.length : Int) + 1 := by simp
                have HLX := Aside0.mk hlx
                have d1 : decide ((pre.length : Int) ≥ (j : Int)) = false := decide_eq_false (by omega)
                have d1' : decide (j ≤ pre.length) = false := decide_eq_false (by omega)
                have q1 : (pre.length : Int) < (j : Int) := by omega
                have hj6 : j ≤ 1048576 := hn6
                have d3 : wrap64 ((pre.length : Int) + 1) = (pre.length : Int) + 1 := by unfold wrap64; omega
                have HD3 := Aside0.mk d3
                obtain ⟨T, hTT⟩ : ∃ T, strOfNums d = T := ⟨_, rfl⟩
                rw [hTT] at hcv1 hcv1' hcv2 hcv2'
                have HM0 := Aside0.mk (fun (nq : Nat) (w8 : World) (hb8 : Below W11.heap.size W11 w8) (hk8 : Kept (X.drewN nq) w8 (fun b => (Value.slice Axx d.length cx).ownBlock = some b)) => jr_after (p := 0) nq hI hok' hNx' z1 hb8 hk8 (p, d, Value.slice Axx d.length cx, N))
                clear hl' hsz hI hNx hok hsp hok' hNx' ho1 ho2 hrd hbA hmn pl pc hsp2 hlx d3 hTT hn6 hb1 hi1 hj6
                obtain ⟨m, hm⟩ : ∃ m, pre.length = m := ⟨_, rfl⟩
                have HMM := Aside0.mk hm
                rw [hm] at ck1 d1 d1' q1 p0 p1
                clear hm
                gi_wp2
                refine region_quiet_round rfl (by kernel_rfl) (by kernel_rfl) (by kernel_rfl) ?_
                repeat (gi_big_quiet_step (fail))
                refine wpQuietIn_nil ?_
                intro _ hw'
                obtain ⟨nq, hw''⟩ := hw'
                subst hw''
                gi_wp2_with fail
                refine ⟨trivial, ?_⟩
                (with_reducible refine (CallsIn.inRound l' (callsIn_wide.2 (morainelaw07_spoil.calls K2 (fun b => (Value.slice Axx d.length cx).ownBlock = some b) (.slice Axx d.length cx) d r2 W11 (X.drewN nq) (pw_below_drewN HIB.out nq) (Kd.R_lower (Kd.R_below (R_only HOK.out) (pw_below_drewN (Below.refl _ _) nq)) (by have := HNX.out; omega)) HSP2.out))).mono ?_)
                rintro e w8 ⟨rfl, _, hb8, hk8⟩
                obtain ⟨hbx8, hfin⟩ := HM0.out nq w8 hb8 hk8
                rw [HMM.out] at hbx8 hfin
                have HFIN := Aside0.mk hfin
                have cy1 := hbx8.cell
                have cy2 := hbx8.frozen
                have ny1 : R1 ≠ W11.heap.size := by have := HRB.out.lt; omega
                have ny2 : w.heap.size ≠ W11.heap.size := by have := HEA.out.lt; omega
                have hrb8 : Boxed w8 R1 3 (.int .i64 1) := blk_below HRB.out hb8
                have heb8 : Boxed w8 w.heap.size 3 (.int .i64 stop) := blk_below HEA.out (below_step HBW.out hb8)
                have cy3 : ∀ v, (w8.setCell ⟨W11.heap.size, 0, none⟩ v).cell? ⟨R1, 0, none⟩ = some (.int .i64 1) := fun v => Boxed.cell (hrb8.other ny1 v)
                have cy4 : ∀ v, (w8.setCell ⟨W11.heap.size, 0, none⟩ v).cell? ⟨w.heap.size, 0, none⟩ = some (.int .i64 stop) := fun v => Boxed.cell (heb8.other ny2 v)
                have cy5 : ∀ v, (w8.setCell ⟨W11.heap.size, 0, none⟩ v).cell? ⟨W11.heap.size, 0, none⟩ = some v := fun v => Boxed.cell (Boxed.set v hbx8)
                have d3 := HD3.out
                rw [HMM.out] at d3
                clear hfin hbx8 hb8 hk8 hrb8 heb8 hcv1 hcv1' hcv2 hcv2' p0 p1 ck1 ck2 ck17
                gi_wp2
                exact HFIN.out
              case fin =>
                rintro D e X he hD hE hK
                obtain ⟨cnt, hbi, hbl, hcn⟩ : ∃ cnt : Nat, Boxed X W11.heap.size 3 (.int .i64 (cnt : Int)) ∧ Below W11.heap.size W11 X ∧ (cnt = j ∨ (1 : Int) = 0 ∧ (cnt : Int) = stop) := by
                  rcases hE with ⟨xs2, g1, g2⟩ | ⟨pre, hp, g0, g1⟩
                  · exact ⟨_, g2.1, g2.2, .inl (by rw [← HN.out, ← ys_len g1])⟩
                  · exact g0.elim
                refine both_ways he ?_
                have HBX := Aside0.mk (below_step HBW.out hbl)
                have HKD1 := Aside0.mk hK
                have HDZ1 := Aside0.mk (show W11.heap.size < D by omega)
                have HLT := Aside0.mk (Nat.lt_trans (blk_lt HKD0.out) HDZ1.out)
                have HKD0 := Aside0.mk (blk_below HKD0.out hbl)
                have ck1 := hbi.cell
                have ck2 := (show Boxed X R1 3 (.int .i64 1) from blk_below HRB.out hbl).cell
                have ck3 := (show Boxed X w5.heap.size 55 (.slice A17 j c17) from blk_below HXA.out HBX.out).cell
                have ck4 := (show Boxed X w.heap.size 3 (.int .i64 stop) from blk_below HEA.out HBX.out).cell
                have HDD1 := Aside0.mk (rfl : D = D)
                obtain ⟨D1, rfl⟩ : ∃ x, x = D := ⟨D, rfl⟩
                clear he hE hbi hK hD hi1 hb1
                have hc' : j = cnt := (hcn.resolve_right (fun h => absurd h.1 (by decide))).symm
                subst hc'
                clear hcn
                gi_wp2
                obtain ⟨W12, hW12⟩ : ∃ W, X.alloc (.cells #[.int .i64 2] 3) = W := ⟨_, rfl⟩
                have hbn : Below X.heap.size X W12 := by rw [← hW12]; exact below_alloc (Below.refl _ _) _
                have HRB := Aside0.mk (show Boxed W12 X.heap.size 3 (.int .i64 2) by rw [← hW12]; exact Boxed.new _ _ _)
                have HBW := Aside0.mk (below_step HBX.out hbn)
                have HKD0 := Aside0.mk (blk_below HKD0.out hbn)
                have HKD1 := Aside0.mk (blk_below HKD1.out hbn)
                rw [hW12]
                have HRZ := Aside0.mk (show wA.heap.size ≤ X.heap.size from HBX.out.size)
                clear hW12 hbn ck1 ck2 ck3 ck4 hbl HBX
                obtain ⟨R2, hR2⟩ : ∃ R, X.heap.size = R := ⟨_, rfl⟩
                rw [hR2] at HRB HRZ ⊢
                clear hR2
                rw [roundsIn_succ]
                have ck6 := HRB.out.cell
                gi_wp2
                go_wp2_with fail
                (with_reducible refine (HKP.out _ HBW.out).mono ?_)
                rintro e w13 ⟨rfl, hd⟩
                have HBW := Aside0.mk (below_step HBW.out hd.below)
                have HKD0 := Aside0.mk (blk_below HKD0.out hd.below)
                have HKD1 := Aside0.mk (blk_below HKD1.out hd.below)
                clear hd ck6
                go_wp2_with fail
                (with_reducible refine (HNM.out _).mono ?_)
                rintro e w14 ⟨rfl, hd⟩
                have HBW := Aside0.mk (below_step HBW.out hd.below)
                have HKD0 := Aside0.mk (blk_below HKD0.out hd.below)
                have HKD1 := Aside0.mk (blk_below HKD1.out hd.below)
                have hT14 : Boxed w14 (w.heap.size + 1) 4 (.bool false) := blk_below HTA.out HBW.out
                have ckt := hT14.cell
                have ckf := hT14.frozen
                have HT14 := Aside0.mk hT14
                clear hd hT14
                go_wp2
                have hk1 := dfr_far (j := 0) (v := .bool true) HKD1.out HT14.out
                have hk0 := dfr_far (j := 0) (v := .bool true) HKD0.out HT14.out
                have hlt2 := HLT.out
                have hlt3 := HDZ0.out
                have hlt4 := HTA.out.lt
                have hb8 := below_set (j := 0) (v := .bool true) (below_step HBA.out HBW.out) (Nat.le_succ w.heap.size)
                have ht8 := Boxed.set (.bool true) HT14.out
                refine ⟨by simp, .inl ⟨_, _, rfl, run_takeDeferred hk1, ?_⟩⟩
                have hk0' := (World.putObj_heap_other (o := .deferred none) (show D0 ≠ D1 by omega)).trans hk0
                refine ⟨by simp, .inl ⟨_, _, rfl, run_takeDeferred hk0', ?_⟩⟩
                have hb9 := hb8.trans (belowK_b (w := w) (Nat.le_refl _) _ _ _ (.deferred none) (show w.heap.size ≤ D1 by omega) hk1 rfl rfl)
                have hb10 := hb9.trans (belowK_b (w := w) (Nat.le_refl _) _ _ _ (.deferred none) (show w.heap.size ≤ D0 by omega) hk0' rfl rfl)
                exact ⟨_, results_c rfl _ _ (w.heap.size + 1) (.bool true) rfl (Boxed.cell ((Boxed.kept (Boxed.kept ht8 (grownBy_putObj' _ _ _) (by simp; omega)) (grownBy_putObj' _ _ _) (by simp; omega)))) Tryd.underlying4, rfl, hb10⟩
            · have hce : (cnt : Int) = stop := (hcn.resolve_left hc).2
              have q1 : ((cnt : Int) != (j : Int)) = true := by simp; omega
              have q0 : (cnt != j) = true := by simpa using hc
              have q2 : ((cnt : Int) == stop) = true := beq_iff_eq.2 hce
              have q3 : ((cnt : Int) != stop) = false := by simpa using hce
              clear hcn hce hc
              gi_wp2
              obtain ⟨W11, hW11⟩ : ∃ W, X.alloc (.cells #[.int .i64 1] 3) = W := ⟨_, rfl⟩
              have hbn : Below X.heap.size X W11 := by rw [← hW11]; exact below_alloc (Below.refl _ _) _
              have HRB := Aside0.mk (show Boxed W11 X.heap.size 3 (.int .i64 1) by rw [← hW11]; exact Boxed.new _ _ _)
              have HBW := Aside0.mk (below_step HBX.out hbn)
              have HKD0 := Aside0.mk (blk_below HKD0.out hbn)
              rw [hW11]
              have HRZ := Aside0.mk (show wA.heap.size ≤ X.heap.size from HBX.out.size)
              clear hW11 hbn ck1 ck2 ck3 ck4 hbl HBX
              obtain ⟨R1, hR1⟩ : ∃ R, X.heap.size = R := ⟨_, rfl⟩
              rw [hR1] at HRB HRZ ⊢
              clear hR1
              rw [roundsIn_succ]
              have cr1 := HRB.out.cell
              gi_wp2_with fail
              obtain ⟨Y1, hY1⟩ : ∃ Y, W11.alloc (.cells #[.int .i64 0] 3) = Y := ⟨_, rfl⟩
              have z1 : Y1.heap.size = W11.heap.size + 1 := by rw [← hY1, World.size_alloc]
              have hb1 : Below W11.heap.size W11 Y1 := by rw [← hY1]; exact below_alloc (Below.refl _ _) _
              have hi1 : Boxed Y1 W11.heap.size 3 (.int .i64 0) := by rw [← hY1]; exact Boxed.new _ _ _
              have HBY1 := Aside0.mk (show Below wA.heap.size wA Y1 from below_step HBW.out hb1)
              have hwz1 : wA.heap.size ≤ W11.heap.size := HBW.out.size
              rw [hY1]
              clear hY1 cr1
              refine range_st3b (n := 6) 8 (by decide) (gf := 36) (lb := #[.pointer (some ⟨Bb, 0, none⟩), .pointer (some ⟨Bo, 0, none⟩)]) rfl (enters_of Tryd.func36 (by kernel_rfl) rfl) (fun _ => rfl)
                (jall1_seq (6 - 1) Bb Bo blk Av cv l0 wA Y1 (fun b => b = W11.heap.size) outs how h1 h2 (bx_below HBB.out HBY1.out) (bx_below HBO.out HBY1.out) HOC.out HCV.out HBY.out HL3.out HBY1.out HTT.out (fun b hb => by subst hb; omega) HRD.out)
                (jrI W11) (fun pre X => False ∧ jrI W11 pre X) (jrI_own _ _ (by omega)) (fun s X Y row hs hg hr => ⟨hs.1, jrI_own _ _ (by omega) s X Y row hs.2 hg hr⟩) (fun s X Y hs hc => jrI_chg hs (by omega) hc) (fun s X Y hs hc => ⟨hs.1, jrI_chg hs.2 (by omega) hc⟩)
                (fun x X Z row h hg hr => R_others rfl h hg (fun r e => (hr r e).2)) (fun _ _ _ _ h _ => h) ⟨hi1, hb1⟩ (fun x => _) (fun l x A K hK => by simp only [encY]; gi_wp2; exact hK) ?body ?fin
              case body =>
                rintro l' pre ⟨p, d, v, N⟩ X hl' hsz hI hNx hok hsp
                have hok' : Kd.R (Kd.int .u8) 5 X N (fun _ => True) v d := hok
                have hNx' : Y1.heap.size + 3 ≤ N := hNx
                obtain ⟨Axx, cx, rfl⟩ := Kd.R_slice hok'
                obtain ⟨ho1, ho2, hrd⟩ := yx_at hsp
                have hbA := below_step HBW.out hI.2
                have hmn : pre.length < j := by rw [← HN.out]; exact ho2
                obtain ⟨adw, Aw, cw, ew, p0, p1, pl, pc⟩ := at_T60 (Kd.C_below HWA.out hbA) (pre.length : Int) (by omega) (by omega)
                rw [hrd] at p0 p1 pl pc
                rw [Int.toNat_natCast] at p0 p1
                dsimp only at p0 p1 pl pc
                have ck1 := hI.1.cell
                have ck2 := hI.1.frozen
                have ck17 := (show Boxed X w5.heap.size 55 (.slice A17 j c17) from blk_below HXA.out hbA).cell
                have hcv1 := fun (m : Nat) => own_string (P := Tryd.prog) Tryd.underlying22 Tryd.underlying5 Tryd.underlying9 (Kd.own_of_R (Kd.R_below hok' (pw_below_drewN (Below.refl X.heap.size X) m)))
                have hcv1' := own_string (P := Tryd.prog) Tryd.underlying22 Tryd.underlying5 Tryd.underlying9 (Kd.own_of_R hok')
                have hcv2 := fun (m : Nat) => Kd.C_string (P := Tryd.prog) (c := cw) Tryd.underlying22 Tryd.underlying5 Tryd.underlying9 (Kd.C_below pc (pw_below_drewN (Below.refl X.heap.size X) m))
                have hcv2' := Kd.C_string (P := Tryd.prog) (c := cw) Tryd.underlying22 Tryd.underlying5 Tryd.underlying9 pc
                subst ew
                obtain ⟨K2, r2, hsp2⟩ := sp_ex d (by have := HRD.out.small _ (List.mem_of_getElem? ho1); dsimp only at this; omega)
                have HSP2 := Aside0.mk hsp2
                have HI := Aside0.mk hI
                have HIB := Aside0.mk hI.2
                have HOK := Aside0.mk hok'
                have HNX := Aside0.mk hNx'
                have HBX := Aside0.mk hbA
                have HRX := Aside0.mk (show Boxed X R1 3 (.int .i64 1) from blk_below HRB.out hI.2)
                have hlx : ((pre ++ [((p, d, Value.slice Axx d.length cx, N) : Yx)]).length : Int) = (pre.length : Int) + 1 := by simp
                have HLX := Aside0.mk hlx
                have d1 : decide ((pre.length : Int) ≥ (j : Int)) = false := decide_eq_false (by omega)
                have d1' : decide (j ≤ pre.length) = false := decide_eq_false (by omega)
                have q1 : (pre.length : Int) < (j : Int) := by omega
                have hj6 : j ≤ 1048576 := hn6
                have d3 : wrap64 ((pre.length : Int) + 1) = (pre.length : Int) + 1 := by unfold wrap64; omega
                have HD3 := Aside0.mk d3
                obtain ⟨T, hTT⟩ : ∃ T, strOfNums d = T := ⟨_, rfl⟩
                rw [hTT] at hcv1 hcv1' hcv2 hcv2'
                have HM0 := Aside0.mk (fun (nq : Nat) (w8 : World) (hb8 : Below W11.heap.size W11 w8) (hk8 : Kept (X.drewN nq) w8 (fun b => (Value.slice Axx d.length cx).ownBlock = some b)) => jr_after (p := 0) nq hI hok' hNx' z1 hb8 hk8 (p, d, Value.slice Axx d.length cx, N))
                clear hl' hsz hI hNx hok hsp hok' hNx' ho1 ho2 hrd hbA hmn pl pc hsp2 hlx d3 hTT hn6 hb1 hi1 hj6
                obtain ⟨m, hm⟩ : ∃ m, pre.length = m := ⟨_, rfl⟩
                have HMM := Aside0.mk hm
                rw [hm] at ck1 d1 d1' q1 p0 p1
                clear hm
                gi_wp2
                refine region_quiet_round rfl (by kernel_rfl) (by kernel_rfl) (by kernel_rfl) ?_
                repeat (gi_big_quiet_step (fail))
                refine wpQuietIn_nil ?_
                intro _ hw'
                obtain ⟨nq, hw''⟩ := hw'
                subst hw''
                gi_wp2_with fail
                refine ⟨trivial, ?_⟩
                (with_reducible refine (CallsIn.inRound l' (callsIn_wide.2 (morainelaw07_spoil.calls K2 (fun b => (Value.slice Axx d.length cx).ownBlock = some b) (.slice Axx d.length cx) d r2 W11 (X.drewN nq) (pw_below_drewN HIB.out nq) (Kd.R_lower (Kd.R_below (R_only HOK.out) (pw_below_drewN (Below.refl _ _) nq)) (by have := HNX.out; omega)) HSP2.out))).mono ?_)
                rintro e w8 ⟨rfl, _, hb8, hk8⟩
                obtain ⟨hbx8, hfin⟩ := HM0.out nq w8 hb8 hk8
                rw [HMM.out] at hbx8 hfin
                have HFIN := Aside0.mk hfin
                have cy1 := hbx8.cell
                have cy2 := hbx8.frozen
                have ny1 : R1 ≠ W11.heap.size := by have := HRB.out.lt; omega
                have ny2 : w.heap.size ≠ W11.heap.size := by have := HEA.out.lt; omega
                have hrb8 : Boxed w8 R1 3 (.int .i64 1) := blk_below HRB.out hb8
                have heb8 : Boxed w8 w.heap.size 3 (.int .i64 stop) := blk_below HEA.out (below_step HBW.out hb8)
                have cy3 : ∀ v, (w8.setCell ⟨W11.heap.size, 0, none⟩ v).cell? ⟨R1, 0, none⟩ = some (.int .i64 1) := fun v => Boxed.cell (hrb8.other ny1 v)
                have cy4 : ∀ v, (w8.setCell ⟨W11.heap.size, 0, none⟩ v).cell? ⟨w.heap.size, 0, none⟩ = some (.int .i64 stop) := fun v => Boxed.cell (heb8.other ny2 v)
                have cy5 : ∀ v, (w8.setCell ⟨W11.heap.size, 0, none⟩ v).cell? ⟨W11.heap.size, 0, none⟩ = some v := fun v => Boxed.cell (Boxed.set v hbx8)
                have d3 := HD3.out
                rw [HMM.out] at d3
                clear hfin hbx8 hb8 hk8 hrb8 heb8 hcv1 hcv1' hcv2 hcv2' p0 p1 ck1 ck2 ck17
                gi_wp2
                exact HFIN.out
              case fin =>
                rintro D e X he hD hE hK
                obtain ⟨cnt, hbi, hbl, hcn⟩ : ∃ cnt : Nat, Boxed X W11.heap.size 3 (.int .i64 (cnt : Int)) ∧ Below W11.heap.size W11 X ∧ (cnt = j ∨ (1 : Int) = 0 ∧ (cnt : Int) = stop) := by
                  rcases hE with ⟨xs2, g1, g2⟩ | ⟨pre, hp, g0, g1⟩
                  · exact ⟨_, g2.1, g2.2, .inl (by rw [← HN.out, ← ys_len g1])⟩
                  · exact g0.elim
                refine both_ways he ?_
                have HBX := Aside0.mk (below_step HBW.out hbl)
                have HKD1 := Aside0.mk hK
                have HDZ1 := Aside0.mk (show W11.heap.size < D by omega)
                have HLT := Aside0.mk (Nat.lt_trans (blk_lt HKD0.out) HDZ1.out)
                have HKD0 := Aside0.mk (blk_below HKD0.out hbl)
                have ck1 := hbi.cell
                have ck2 := (show Boxed X R1 3 (.int .i64 1) from blk_below HRB.out hbl).cell
                have ck3 := (show Boxed X w5.heap.size 55 (.slice A17 j c17) from blk_below HXA.out HBX.out).cell
                have ck4 := (show Boxed X w.heap.size 3 (.int .i64 stop) from blk_below HEA.out HBX.out).cell
                have HDD1 := Aside0.mk (rfl : D = D)
                obtain ⟨D1, rfl⟩ : ∃ x, x = D := ⟨D, rfl⟩
                clear he hE hbi hK hD hi1 hb1
                have hc' : j = cnt := (hcn.resolve_right (fun h => absurd h.1 (by decide))).symm
                subst hc'
                clear hcn
                gi_wp2
                obtain ⟨W12, hW12⟩ : ∃ W, X.alloc (.cells #[.int .i64 2] 3) = W := ⟨_, rfl⟩
                have hbn : Below X.heap.size X W12 := by rw [← hW12]; exact below_alloc (Below.refl _ _) _
                have HRB := Aside0.mk (show Boxed W12 X.heap.size 3 (.int .i64 2) by rw [← hW12]; exact Boxed.new _ _ _)
                have HBW := Aside0.mk (below_step HBX.out hbn)
                have HKD0 := Aside0.mk (blk_below HKD0.out hbn)
                have HKD1 := Aside0.mk (blk_below HKD1.out hbn)
                rw [hW12]
                have HRZ := Aside0.mk (show wA.heap.size ≤ X.heap.size from HBX.out.size)
                clear hW12 hbn ck1 ck2 ck3 ck4 hbl HBX
                obtain ⟨R2, hR2⟩ : ∃ R, X.heap.size = R := ⟨_, rfl⟩
                rw [hR2] at HRB HRZ ⊢
                clear hR2
                rw [roundsIn_succ]
                have ck6 := HRB.out.cell
                gi_wp2
                go_wp2_with fail
                (with_reducible refine (HKP.out _ HBW.out).mono ?_)
                rintro e w13 ⟨rfl, hd⟩
                have HBW := Aside0.mk (below_step HBW.out hd.below)
                have HKD0 := Aside0.mk (blk_below HKD0.out hd.below)
                have HKD1 := Aside0.mk (blk_below HKD1.out hd.below)
                clear hd ck6
                go_wp2_with fail
                (with_reducible refine (HNM.out _).mono ?_)
                rintro e w14 ⟨rfl, hd⟩
                have HBW := Aside0.mk (below_step HBW.out hd.below)
                have HKD0 := Aside0.mk (blk_below HKD0.out hd.below)
                have HKD1 := Aside0.mk (blk_below HKD1.out hd.below)
                have hT14 : Boxed w14 (w.heap.size + 1) 4 (.bool false) := blk_below HTA.out HBW.out
                have ckt := hT14.cell
                have ckf := hT14.frozen
                have HT14 := Aside0.mk hT14
                clear hd hT14
                go_wp2
                have hk1 := dfr_far (j := 0) (v := .bool true) HKD1.out HT14.out
                have hk0 := dfr_far (j := 0) (v := .bool true) HKD0.out HT14.out
                have hlt2 := HLT.out
                have hlt3 := HDZ0.out
                have hlt4 := HTA.out.lt
                have hb8 := below_set (j := 0) (v := .bool true) (below_step HBA.out HBW.out) (Nat.le_succ w.heap.size)
                have ht8 := Boxed.set (.bool true) HT14.out
                refine ⟨by simp, .inl ⟨_, _, rfl, run_takeDeferred hk1, ?_⟩⟩
                have hk0' := (World.putObj_heap_other (o := .deferred none) (show D0 ≠ D1 by omega)).trans hk0
                refine ⟨by simp, .inl ⟨_, _, rfl, run_takeDeferred hk0', ?_⟩⟩
                have hb9 := hb8.trans (belowK_b (w := w) (Nat.le_refl _) _ _ _ (.deferred none) (show w.heap.size ≤ D1 by omega) hk1 rfl rfl)
                have hb10 := hb9.trans (belowK_b (w := w) (Nat.le_refl _) _ _ _ (.deferred none) (show w.heap.size ≤ D0 by omega) hk0' rfl rfl)
                exact ⟨_, results_c rfl _ _ (w.heap.size + 1) (.bool true) rfl (Boxed.cell ((Boxed.kept (Boxed.kept ht8 (grownBy_putObj' _ _ _) (by simp; omega)) (grownBy_putObj' _ _ _) (by simp; omega)))) Tryd.underlying4, rfl, hb10⟩

end Go.Proofs.YtmpkigambfghgaaDoor.G

/- Contracts typed by hand: an argument that can be read is of its kind: from the form's reading to the words of the walks -/
namespace Go.Proofs.YtmpkigambfghgaaDoor.G
open Go.RowKit Go.Proofs.YtmpkigambfghgaaDoorW.PrintWords Go.Proofs.YtmpkigambfghgaaDoorW.PrintLast Go.Proofs.YtmpkigambfghgaaDoorW.PrintMore
attribute [local go_sem] max2_int min2_int max_two min_two max_three min_three max_four min_four
set_option linter.unusedVariables false
set_option linter.unusedSimpArgs false

/-! an argument that can be read is of its kind: from the form's reading to the words of the walks -/
open Go.ChangeShapes Go.WideShapes Go.Deep
structure Opens (P : Program) (t : TypeId) {α : Type} (d : Kd α) (good : α → Prop) (bulk : α → Nat) : Prop where
  sz : P.cellsOf t = d.sz
  one : ∀ x, 1 ≤ bulk x
  go : ∀ {H : Type} {enc : TypeId × Value → H} {w : World} {base : Nat} {spare : Nat → Bool} {held : Bool} {fuel : Nat} {cs : List Value} {x : DataW H × List MemPlace}, DataW.trod enc P w base spare held fuel t cs = some x → ∃ a : α, d.K w a cs ∧ good a ∧ bulk a ≤ Rows.uptoBulk x.1
theorem opens_int {P : Program} {t : TypeId} {k : IntKind} (h : P.underlying t = some (.int k)) (hc : P.cellsOf t = 1) : Opens P t (Kd.int k) (fun n => (Lit.int k n).wf = true) (fun _ => 1) where
  sz := hc
  one := fun _ => Nat.le_refl 1
  go := by
    intro H enc w base spare held fuel cs x hx
    obtain ⟨n, rfl, rfl, hw⟩ := DataW.trod_int h hx
    exact ⟨n, rfl, hw, by simp [Rows.uptoBulk]⟩
theorem opens_bool {P : Program} {t : TypeId} (h : P.underlying t = some .bool) (hc : P.cellsOf t = 1) : Opens P t Kd.bool (fun _ => True) (fun _ => 1) where
  sz := hc
  one := fun _ => Nat.le_refl 1
  go := by
    intro H enc w base spare held fuel cs x hx
    obtain ⟨n, rfl, rfl⟩ := DataW.trod_bool h hx
    exact ⟨n, rfl, trivial, by simp [Rows.uptoBulk]⟩
theorem opens_string {P : Program} {t : TypeId} (h : P.underlying t = some .string) (hc : P.cellsOf t = 1) : Opens P t Kd.string (fun s => s.size ≤ maxLen) (fun s => s.size + 1) where
  sz := hc
  one := fun s => Nat.le_add_left 1 s.size
  go := by
    intro H enc w base spare held fuel cs x hx
    obtain ⟨s, rfl, rfl, hw⟩ := DataW.trod_string h hx
    exact ⟨s, rfl, hw, by simp [Rows.uptoBulk]⟩
def sumBulk {α : Type} (bulk : α → Nat) (l : List α) : Nat := (l.map bulk).sum
theorem sumBulk_nil {α : Type} (bulk : α → Nat) : sumBulk bulk [] = 0 := rfl
theorem sumBulk_cons {α : Type} (bulk : α → Nat) (x : α) (l : List α) : sumBulk bulk (x :: l) = bulk x + sumBulk bulk l := by simp [sumBulk]
theorem sumBulk_append {α : Type} (bulk : α → Nat) (l r : List α) : sumBulk bulk (l ++ r) = sumBulk bulk l + sumBulk bulk r := by simp [sumBulk, List.sum_append]
theorem sumBulk_mem {α : Type} (bulk : α → Nat) {x : α} {l : List α} (h : x ∈ l) : bulk x ≤ sumBulk bulk l := by
  induction l with
  | nil => cases h
  | cons y r ih =>
    rw [sumBulk_cons]
    rcases List.mem_cons.1 h with rfl | h
    · omega
    · have := ih h; omega
theorem sumBulk_len {α : Type} (bulk : α → Nat) (h1 : ∀ x, 1 ≤ bulk x) (l : List α) : l.length ≤ sumBulk bulk l := by
  induction l with
  | nil => exact Nat.zero_le _
  | cons y r ih => rw [sumBulk_cons, List.length_cons]; have := h1 y; omega
theorem list_of {α : Type} {Q : Nat → α → Prop} : ∀ (n : Nat), (∀ i, i < n → ∃ y, Q i y) → ∃ l : List α, l.length = n ∧ ∀ i y, l[i]? = some y → Q i y
  | 0, _ => ⟨[], rfl, fun i y h => by simp at h⟩
  | n + 1, h => by
    obtain ⟨l, hl, hq⟩ := list_of n (fun i hi => h i (by omega))
    obtain ⟨y, hy⟩ := h n (by omega)
    refine ⟨l ++ [y], by simp [hl], fun i z hz => ?_⟩
    rcases Nat.lt_trichotomy i n with hi | hi | hi
    · rw [List.getElem?_append_left (by omega)] at hz
      exact hq i z hz
    · subst hi
      rw [List.getElem?_append_right (by omega), hl] at hz
      simp at hz
      subst hz
      exact hy
    · rw [List.getElem?_eq_none (by simp [hl]; omega)] at hz
      cases hz
theorem bulkAll_append {H : Type} (l r : List (DataW H)) : Rows.uptoBulkAll (l ++ r) = Rows.uptoBulkAll l + Rows.uptoBulkAll r := by
  induction l with
  | nil => simp [Rows.uptoBulkAll]
  | cons x l ih => simp only [List.cons_append, Rows.uptoBulkAll, ih]; omega
theorem bulkAll_map {H : Type} {α : Type} (bulk : α → Nat) (D : Nat → DataW H) : ∀ (n : Nat) (l : List α), l.length = n → (∀ i y, l[i]? = some y → bulk y ≤ Rows.uptoBulk (D i)) → sumBulk bulk l ≤ Rows.uptoBulkAll ((List.range n).map D)
  | 0, l, hl, _ => by
    have : l = [] := List.length_eq_zero_iff.1 hl
    subst this
    simp [sumBulk]
  | n + 1, l, hl, h => by
    have hne : l ≠ [] := by
      intro e
      rw [e] at hl
      simp at hl
    obtain ⟨l0, y0, rfl⟩ : ∃ l0 y0, l = l0 ++ [y0] := ⟨l.dropLast, l.getLast hne, (List.dropLast_concat_getLast hne).symm⟩
    have hd : l0.length = n := by simpa using hl
    have ih := bulkAll_map bulk D n l0 hd (fun i y hy => h i y (by
      have hi : i < l0.length := (List.getElem?_eq_some_iff.1 hy).1
      rw [List.getElem?_append_left hi]
      exact hy))
    have hn := h n y0 (by
      rw [List.getElem?_append_right (by omega), hd]
      simp)
    rw [List.range_succ, List.map_append, bulkAll_append, sumBulk_append]
    simp only [List.map_cons, List.map_nil, sumBulk_cons, sumBulk_nil, Rows.uptoBulkAll]
    omega
theorem opens_slice {P : Program} {t e : TypeId} {α : Type} {d : Kd α} {good : α → Prop} {bulk : α → Nat} (h : P.underlying t = some (.slice e)) (hc : P.cellsOf t = 1) (he : Opens P e d good bulk) : Opens P t (Kd.slice e d) (fun l => ∀ x ∈ l, good x) (fun l => sumBulk bulk l + 1) where
  sz := hc
  one := fun l => Nat.le_add_left 1 _
  go := by
    intro H enc w base spare held fuel cs x hx
    rcases open_slice h hx with ⟨rfl, rfl⟩ | ⟨a, len, cap, m, n, D, Pl, rfl, hb, hl, hm, hmm, rfl, hi⟩
    · exact ⟨[], ⟨none, 0, rfl, Nat.le_refl _, Kd.C_nil _ _⟩, by simp, by simp [sumBulk, Rows.uptoBulk]⟩
    · have hlm : len ≤ m := by
        rw [hmm]
        split
        · exact hl
        · exact Nat.le_refl _
      obtain ⟨l, hll, hq⟩ := list_of (Q := fun i y => ∃ cs', w.cells? base (a.add (i * P.cellsOf e)) (P.cellsOf e) = some cs' ∧ d.K w y cs' ∧ good y ∧ bulk y ≤ Rows.uptoBulk (D i)) len (fun i hlt => by
        obtain ⟨cs', hcs, ht⟩ := hi i (by omega)
        obtain ⟨y, h1, h2, h3⟩ := he.go ht
        exact ⟨y, cs', hcs, h1, h2, h3⟩)
      subst hll
      refine ⟨l, ⟨some a, cap, rfl, hl, rfl, by unfold maxLen at hm; omega, fun _ => ⟨a, rfl, fun j p hj => ?_⟩⟩, fun x hx => ?_, ?_⟩
      · obtain ⟨cs', hcs, hk, _, _⟩ := hq j p hj
        obtain ⟨_, hlen, hat⟩ := World.cells?_some hcs
        rw [he.sz] at hlen hat
        refine ⟨cs', hlen, hk, fun i u hu => ?_⟩
        have hil : i < cs'.length := (List.getElem?_eq_some_iff.1 hu).1
        have := hat i (by omega)
        rw [Go.Deep.add_add] at this
        rw [this, hu]
      · obtain ⟨i, hi2⟩ := List.getElem?_of_mem hx
        obtain ⟨_, _, _, hg, _⟩ := hq i x hi2
        exact hg
      · have hbk := bulkAll_map bulk D l.length l rfl (fun i y hy => by
          obtain ⟨_, _, _, _, h5⟩ := hq i y hy
          exact h5)
        simp only [Rows.uptoBulk]
        omega
theorem opens_struct2 {P : Program} {t : TypeId} {f0 f1 : Field} {α β : Type} {d0 : Kd α} {d1 : Kd β} {g0 : α → Prop} {g1 : β → Prop} {b0 : α → Nat} {b1 : β → Nat} (ht : P.underlying t = some (.struct #[f0, f1])) (hc : P.cellsOf t = d0.sz + d1.sz)
    (ho0 : f0.offset = 0) (ho1 : f1.offset = d0.sz) (h0 : Opens P f0.type d0 g0 b0) (h1 : Opens P f1.type d1 g1 b1) : Opens P t (Kd.pair d0 d1) (fun x => g0 x.1 ∧ g1 x.2) (fun x => b0 x.1 + b1 x.2 + 1) where
  sz := hc
  one := fun l => Nat.le_add_left 1 _
  go := by
    intro H enc w base spare held fuel cs x hx
    obtain ⟨y0, y1, n, rfl, hl, e0, e1⟩ := trod_struct2 ht hx
    obtain ⟨a, k0, q0, p0⟩ := h0.go e0
    obtain ⟨b, k1, q1, p1⟩ := h1.go e1
    rw [ho0, h0.sz] at k0
    rw [ho1, h1.sz] at k1
    refine ⟨(a, b), ⟨_, _, ?_, k0, k1⟩, ⟨q0, q1⟩, ?_⟩
    · rw [List.drop_zero]
      have hd : (cs.drop d0.sz).take d1.sz = cs.drop d0.sz := List.take_of_length_le (by rw [List.length_drop]; omega)
      rw [hd, List.take_append_drop]
    · simp only [Rows.uptoBulk, Rows.uptoBulkAll]
      omega
theorem opens_struct3 {P : Program} {t : TypeId} {f0 f1 f2 : Field} {α β γ : Type} {d0 : Kd α} {d1 : Kd β} {d2 : Kd γ} {g0 : α → Prop} {g1 : β → Prop} {g2 : γ → Prop} {b0 : α → Nat} {b1 : β → Nat} {b2 : γ → Nat} (ht : P.underlying t = some (.struct #[f0, f1, f2])) (hc : P.cellsOf t = d0.sz + (d1.sz + d2.sz))
    (ho0 : f0.offset = 0) (ho1 : f1.offset = d0.sz) (ho2 : f2.offset = d0.sz + d1.sz) (h0 : Opens P f0.type d0 g0 b0) (h1 : Opens P f1.type d1 g1 b1) (h2 : Opens P f2.type d2 g2 b2) : Opens P t (Kd.pair d0 (Kd.pair d1 d2)) (fun x => g0 x.1 ∧ g1 x.2.1 ∧ g2 x.2.2) (fun x => b0 x.1 + b1 x.2.1 + b2 x.2.2 + 1) where
  sz := hc
  one := fun l => Nat.le_add_left 1 _
  go := by
    intro H enc w base spare held fuel cs x hx
    obtain ⟨y0, y1, y2, n, rfl, hl, e0, e1, e2⟩ := trod_struct3 ht hx
    obtain ⟨a, k0, q0, p0⟩ := h0.go e0
    obtain ⟨b, k1, q1, p1⟩ := h1.go e1
    obtain ⟨c, k2, q2, p2⟩ := h2.go e2
    rw [ho0, h0.sz] at k0
    rw [ho1, h1.sz] at k1
    rw [ho2, h2.sz] at k2
    refine ⟨(a, b, c), ⟨_, _, ?_, k0, _, _, rfl, k1, k2⟩, ⟨q0, q1, q2⟩, ?_⟩
    · rw [List.drop_zero]
      have hd : (cs.drop (d0.sz + d1.sz)).take d2.sz = cs.drop (d0.sz + d1.sz) := List.take_of_length_le (by rw [List.length_drop]; omega)
      rw [hd, ← List.drop_drop, List.take_append_drop, List.take_append_drop]
    · simp only [Rows.uptoBulk, Rows.uptoBulkAll]
      omega
theorem seg_join {α : Type} (cs : List α) (o n : Nat) : (cs.drop o).take n ++ cs.drop (o + n) = cs.drop o := by
  rw [← List.drop_drop, List.take_append_drop]
theorem opens_struct4 {P : Program} {t : TypeId} {f0 f1 f2 f3 : Field} {α0 α1 α2 α3 : Type} {d0 : Kd α0} {d1 : Kd α1} {d2 : Kd α2} {d3 : Kd α3} {g0 : α0 → Prop} {g1 : α1 → Prop} {g2 : α2 → Prop} {g3 : α3 → Prop} {b0 : α0 → Nat} {b1 : α1 → Nat} {b2 : α2 → Nat} {b3 : α3 → Nat} (ht : P.underlying t = some (.struct #[f0, f1, f2, f3])) (hc : P.cellsOf t = (d0.sz + (d1.sz + (d2.sz + d3.sz))))
    (ho0 : f0.offset = 0) (ho1 : f1.offset = d0.sz) (ho2 : f2.offset = d0.sz + d1.sz) (ho3 : f3.offset = d0.sz + d1.sz + d2.sz) (h0 : Opens P f0.type d0 g0 b0) (h1 : Opens P f1.type d1 g1 b1) (h2 : Opens P f2.type d2 g2 b2) (h3 : Opens P f3.type d3 g3 b3) : Opens P t (Kd.pair d0 (Kd.pair d1 (Kd.pair d2 d3))) (fun x => g0 x.1 ∧ g1 x.2.1 ∧ g2 x.2.2.1 ∧ g3 x.2.2.2) (fun x => b0 x.1 + b1 x.2.1 + b2 x.2.2.1 + b3 x.2.2.2 + 1) where
  sz := hc
  one := fun l => Nat.le_add_left 1 _
  go := by
    intro H enc w base spare held fuel cs x hx
    obtain ⟨xs, n, _, rfl, hl, hlen, hf⟩ := DataW.trod_struct ht hx
    match xs, hlen with
    | [y0, y1, y2, y3], _ =>
      obtain ⟨a0, k0, q0, p0⟩ := h0.go (show DataW.trod enc P w base spare held n f0.type ((cs.drop f0.offset).take (P.cellsOf f0.type)) = some y0 from by simpa using hf 0 f0 rfl)
      rw [ho0, h0.sz] at k0
      obtain ⟨a1, k1, q1, p1⟩ := h1.go (show DataW.trod enc P w base spare held n f1.type ((cs.drop f1.offset).take (P.cellsOf f1.type)) = some y1 from by simpa using hf 1 f1 rfl)
      rw [ho1, h1.sz] at k1
      obtain ⟨a2, k2, q2, p2⟩ := h2.go (show DataW.trod enc P w base spare held n f2.type ((cs.drop f2.offset).take (P.cellsOf f2.type)) = some y2 from by simpa using hf 2 f2 rfl)
      rw [ho2, h2.sz] at k2
      obtain ⟨a3, k3, q3, p3⟩ := h3.go (show DataW.trod enc P w base spare held n f3.type ((cs.drop f3.offset).take (P.cellsOf f3.type)) = some y3 from by simpa using hf 3 f3 rfl)
      rw [ho3, h3.sz] at k3
      refine ⟨(a0, a1, a2, a3), ⟨_, _, ?_, k0, _, _, rfl, k1, _, _, rfl, k2, k3⟩, ⟨q0, q1, q2, q3⟩, ?_⟩
      · rw [List.drop_zero]
        have hd : (cs.drop (d0.sz + d1.sz + d2.sz)).take d3.sz = cs.drop (d0.sz + d1.sz + d2.sz) := List.take_of_length_le (by rw [List.length_drop]; omega)
        rw [hd, seg_join, seg_join, List.take_append_drop]
      · simp only [List.map_cons, List.map_nil, Rows.uptoBulk, Rows.uptoBulkAll]
        omega
theorem opens_struct5 {P : Program} {t : TypeId} {f0 f1 f2 f3 f4 : Field} {α0 α1 α2 α3 α4 : Type} {d0 : Kd α0} {d1 : Kd α1} {d2 : Kd α2} {d3 : Kd α3} {d4 : Kd α4} {g0 : α0 → Prop} {g1 : α1 → Prop} {g2 : α2 → Prop} {g3 : α3 → Prop} {g4 : α4 → Prop} {b0 : α0 → Nat} {b1 : α1 → Nat} {b2 : α2 → Nat} {b3 : α3 → Nat} {b4 : α4 → Nat} (ht : P.underlying t = some (.struct #[f0, f1, f2, f3, f4])) (hc : P.cellsOf t = (d0.sz + (d1.sz + (d2.sz + (d3.sz + d4.sz)))))
    (ho0 : f0.offset = 0) (ho1 : f1.offset = d0.sz) (ho2 : f2.offset = d0.sz + d1.sz) (ho3 : f3.offset = d0.sz + d1.sz + d2.sz) (ho4 : f4.offset = d0.sz + d1.sz + d2.sz + d3.sz) (h0 : Opens P f0.type d0 g0 b0) (h1 : Opens P f1.type d1 g1 b1) (h2 : Opens P f2.type d2 g2 b2) (h3 : Opens P f3.type d3 g3 b3) (h4 : Opens P f4.type d4 g4 b4) : Opens P t (Kd.pair d0 (Kd.pair d1 (Kd.pair d2 (Kd.pair d3 d4)))) (fun x => g0 x.1 ∧ g1 x.2.1 ∧ g2 x.2.2.1 ∧ g3 x.2.2.2.1 ∧ g4 x.2.2.2.2) (fun x => b0 x.1 + b1 x.2.1 + b2 x.2.2.1 + b3 x.2.2.2.1 + b4 x.2.2.2.2 + 1) where
  sz := hc
  one := fun l => Nat.le_add_left 1 _
  go := by
    intro H enc w base spare held fuel cs x hx
    obtain ⟨xs, n, _, rfl, hl, hlen, hf⟩ := DataW.trod_struct ht hx
    match xs, hlen with
    | [y0, y1, y2, y3, y4], _ =>
      obtain ⟨a0, k0, q0, p0⟩ := h0.go (show DataW.trod enc P w base spare held n f0.type ((cs.drop f0.offset).take (P.cellsOf f0.type)) = some y0 from by simpa using hf 0 f0 rfl)
      rw [ho0, h0.sz] at k0
      obtain ⟨a1, k1, q1, p1⟩ := h1.go (show DataW.trod enc P w base spare held n f1.type ((cs.drop f1.offset).take (P.cellsOf f1.type)) = some y1 from by simpa using hf 1 f1 rfl)
      rw [ho1, h1.sz] at k1
      obtain ⟨a2, k2, q2, p2⟩ := h2.go (show DataW.trod enc P w base spare held n f2.type ((cs.drop f2.offset).take (P.cellsOf f2.type)) = some y2 from by simpa using hf 2 f2 rfl)
      rw [ho2, h2.sz] at k2
      obtain ⟨a3, k3, q3, p3⟩ := h3.go (show DataW.trod enc P w base spare held n f3.type ((cs.drop f3.offset).take (P.cellsOf f3.type)) = some y3 from by simpa using hf 3 f3 rfl)
      rw [ho3, h3.sz] at k3
      obtain ⟨a4, k4, q4, p4⟩ := h4.go (show DataW.trod enc P w base spare held n f4.type ((cs.drop f4.offset).take (P.cellsOf f4.type)) = some y4 from by simpa using hf 4 f4 rfl)
      rw [ho4, h4.sz] at k4
      refine ⟨(a0, a1, a2, a3, a4), ⟨_, _, ?_, k0, _, _, rfl, k1, _, _, rfl, k2, _, _, rfl, k3, k4⟩, ⟨q0, q1, q2, q3, q4⟩, ?_⟩
      · rw [List.drop_zero]
        have hd : (cs.drop (d0.sz + d1.sz + d2.sz + d3.sz)).take d4.sz = cs.drop (d0.sz + d1.sz + d2.sz + d3.sz) := List.take_of_length_le (by rw [List.length_drop]; omega)
        rw [hd, seg_join, seg_join, seg_join, List.take_append_drop]
      · simp only [List.map_cons, List.map_nil, Rows.uptoBulk, Rows.uptoBulkAll]
        omega
theorem opens_struct6 {P : Program} {t : TypeId} {f0 f1 f2 f3 f4 f5 : Field} {α0 α1 α2 α3 α4 α5 : Type} {d0 : Kd α0} {d1 : Kd α1} {d2 : Kd α2} {d3 : Kd α3} {d4 : Kd α4} {d5 : Kd α5} {g0 : α0 → Prop} {g1 : α1 → Prop} {g2 : α2 → Prop} {g3 : α3 → Prop} {g4 : α4 → Prop} {g5 : α5 → Prop} {b0 : α0 → Nat} {b1 : α1 → Nat} {b2 : α2 → Nat} {b3 : α3 → Nat} {b4 : α4 → Nat} {b5 : α5 → Nat} (ht : P.underlying t = some (.struct #[f0, f1, f2, f3, f4, f5])) (hc : P.cellsOf t = (d0.sz + (d1.sz + (d2.sz + (d3.sz + (d4.sz + d5.sz))))))
    (ho0 : f0.offset = 0) (ho1 : f1.offset = d0.sz) (ho2 : f2.offset = d0.sz + d1.sz) (ho3 : f3.offset = d0.sz + d1.sz + d2.sz) (ho4 : f4.offset = d0.sz + d1.sz + d2.sz + d3.sz) (ho5 : f5.offset = d0.sz + d1.sz + d2.sz + d3.sz + d4.sz) (h0 : Opens P f0.type d0 g0 b0) (h1 : Opens P f1.type d1 g1 b1) (h2 : Opens P f2.type d2 g2 b2) (h3 : Opens P f3.type d3 g3 b3) (h4 : Opens P f4.type d4 g4 b4) (h5 : Opens P f5.type d5 g5 b5) : Opens P t (Kd.pair d0 (Kd.pair d1 (Kd.pair d2 (Kd.pair d3 (Kd.pair d4 d5))))) (fun x => g0 x.1 ∧ g1 x.2.1 ∧ g2 x.2.2.1 ∧ g3 x.2.2.2.1 ∧ g4 x.2.2.2.2.1 ∧ g5 x.2.2.2.2.2) (fun x => b0 x.1 + b1 x.2.1 + b2 x.2.2.1 + b3 x.2.2.2.1 + b4 x.2.2.2.2.1 + b5 x.2.2.2.2.2 + 1) where
  sz := hc
  one := fun l => Nat.le_add_left 1 _
  go := by
    intro H enc w base spare held fuel cs x hx
    obtain ⟨xs, n, _, rfl, hl, hlen, hf⟩ := DataW.trod_struct ht hx
    match xs, hlen with
    | [y0, y1, y2, y3, y4, y5], _ =>
      obtain ⟨a0, k0, q0, p0⟩ := h0.go (show DataW.trod enc P w base spare held n f0.type ((cs.drop f0.offset).take (P.cellsOf f0.type)) = some y0 from by simpa using hf 0 f0 rfl)
      rw [ho0, h0.sz] at k0
      obtain ⟨a1, k1, q1, p1⟩ := h1.go (show DataW.trod enc P w base spare held n f1.type ((cs.drop f1.offset).take (P.cellsOf f1.type)) = some y1 from by simpa using hf 1 f1 rfl)
      rw [ho1, h1.sz] at k1
      obtain ⟨a2, k2, q2, p2⟩ := h2.go (show DataW.trod enc P w base spare held n f2.type ((cs.drop f2.offset).take (P.cellsOf f2.type)) = some y2 from by simpa using hf 2 f2 rfl)
      rw [ho2, h2.sz] at k2
      obtain ⟨a3, k3, q3, p3⟩ := h3.go (show DataW.trod enc P w base spare held n f3.type ((cs.drop f3.offset).take (P.cellsOf f3.type)) = some y3 from by simpa using hf 3 f3 rfl)
      rw [ho3, h3.sz] at k3
      obtain ⟨a4, k4, q4, p4⟩ := h4.go (show DataW.trod enc P w base spare held n f4.type ((cs.drop f4.offset).take (P.cellsOf f4.type)) = some y4 from by simpa using hf 4 f4 rfl)
      rw [ho4, h4.sz] at k4
      obtain ⟨a5, k5, q5, p5⟩ := h5.go (show DataW.trod enc P w base spare held n f5.type ((cs.drop f5.offset).take (P.cellsOf f5.type)) = some y5 from by simpa using hf 5 f5 rfl)
      rw [ho5, h5.sz] at k5
      refine ⟨(a0, a1, a2, a3, a4, a5), ⟨_, _, ?_, k0, _, _, rfl, k1, _, _, rfl, k2, _, _, rfl, k3, _, _, rfl, k4, k5⟩, ⟨q0, q1, q2, q3, q4, q5⟩, ?_⟩
      · rw [List.drop_zero]
        have hd : (cs.drop (d0.sz + d1.sz + d2.sz + d3.sz + d4.sz)).take d5.sz = cs.drop (d0.sz + d1.sz + d2.sz + d3.sz + d4.sz) := List.take_of_length_le (by rw [List.length_drop]; omega)
        rw [hd, seg_join, seg_join, seg_join, seg_join, List.take_append_drop]
      · simp only [List.map_cons, List.map_nil, Rows.uptoBulk, Rows.uptoBulkAll]
        omega
theorem opens_struct7 {P : Program} {t : TypeId} {f0 f1 f2 f3 f4 f5 f6 : Field} {α0 α1 α2 α3 α4 α5 α6 : Type} {d0 : Kd α0} {d1 : Kd α1} {d2 : Kd α2} {d3 : Kd α3} {d4 : Kd α4} {d5 : Kd α5} {d6 : Kd α6} {g0 : α0 → Prop} {g1 : α1 → Prop} {g2 : α2 → Prop} {g3 : α3 → Prop} {g4 : α4 → Prop} {g5 : α5 → Prop} {g6 : α6 → Prop} {b0 : α0 → Nat} {b1 : α1 → Nat} {b2 : α2 → Nat} {b3 : α3 → Nat} {b4 : α4 → Nat} {b5 : α5 → Nat} {b6 : α6 → Nat} (ht : P.underlying t = some (.struct #[f0, f1, f2, f3, f4, f5, f6])) (hc : P.cellsOf t = (d0.sz + (d1.sz + (d2.sz + (d3.sz + (d4.sz + (d5.sz + d6.sz)))))))
    (ho0 : f0.offset = 0) (ho1 : f1.offset = d0.sz) (ho2 : f2.offset = d0.sz + d1.sz) (ho3 : f3.offset = d0.sz + d1.sz + d2.sz) (ho4 : f4.offset = d0.sz + d1.sz + d2.sz + d3.sz) (ho5 : f5.offset = d0.sz + d1.sz + d2.sz + d3.sz + d4.sz) (ho6 : f6.offset = d0.sz + d1.sz + d2.sz + d3.sz + d4.sz + d5.sz) (h0 : Opens P f0.type d0 g0 b0) (h1 : Opens P f1.type d1 g1 b1) (h2 : Opens P f2.type d2 g2 b2) (h3 : Opens P f3.type d3 g3 b3) (h4 : Opens P f4.type d4 g4 b4) (h5 : Opens P f5.type d5 g5 b5) (h6 : Opens P f6.type d6 g6 b6) : Opens P t (Kd.pair d0 (Kd.pair d1 (Kd.pair d2 (Kd.pair d3 (Kd.pair d4 (Kd.pair d5 d6)))))) (fun x => g0 x.1 ∧ g1 x.2.1 ∧ g2 x.2.2.1 ∧ g3 x.2.2.2.1 ∧ g4 x.2.2.2.2.1 ∧ g5 x.2.2.2.2.2.1 ∧ g6 x.2.2.2.2.2.2) (fun x => b0 x.1 + b1 x.2.1 + b2 x.2.2.1 + b3 x.2.2.2.1 + b4 x.2.2.2.2.1 + b5 x.2.2.2.2.2.1 + b6 x.2.2.2.2.2.2 + 1) where
  sz := hc
  one := fun l => Nat.le_add_left 1 _
  go := by
    intro H enc w base spare held fuel cs x hx
    obtain ⟨xs, n, _, rfl, hl, hlen, hf⟩ := DataW.trod_struct ht hx
    match xs, hlen with
    | [y0, y1, y2, y3, y4, y5, y6], _ =>
      obtain ⟨a0, k0, q0, p0⟩ := h0.go (show DataW.trod enc P w base spare held n f0.type ((cs.drop f0.offset).take (P.cellsOf f0.type)) = some y0 from by simpa using hf 0 f0 rfl)
      rw [ho0, h0.sz] at k0
      obtain ⟨a1, k1, q1, p1⟩ := h1.go (show DataW.trod enc P w base spare held n f1.type ((cs.drop f1.offset).take (P.cellsOf f1.type)) = some y1 from by simpa using hf 1 f1 rfl)
      rw [ho1, h1.sz] at k1
      obtain ⟨a2, k2, q2, p2⟩ := h2.go (show DataW.trod enc P w base spare held n f2.type ((cs.drop f2.offset).take (P.cellsOf f2.type)) = some y2 from by simpa using hf 2 f2 rfl)
      rw [ho2, h2.sz] at k2
      obtain ⟨a3, k3, q3, p3⟩ := h3.go (show DataW.trod enc P w base spare held n f3.type ((cs.drop f3.offset).take (P.cellsOf f3.type)) = some y3 from by simpa using hf 3 f3 rfl)
      rw [ho3, h3.sz] at k3
      obtain ⟨a4, k4, q4, p4⟩ := h4.go (show DataW.trod enc P w base spare held n f4.type ((cs.drop f4.offset).take (P.cellsOf f4.type)) = some y4 from by simpa using hf 4 f4 rfl)
      rw [ho4, h4.sz] at k4
      obtain ⟨a5, k5, q5, p5⟩ := h5.go (show DataW.trod enc P w base spare held n f5.type ((cs.drop f5.offset).take (P.cellsOf f5.type)) = some y5 from by simpa using hf 5 f5 rfl)
      rw [ho5, h5.sz] at k5
      obtain ⟨a6, k6, q6, p6⟩ := h6.go (show DataW.trod enc P w base spare held n f6.type ((cs.drop f6.offset).take (P.cellsOf f6.type)) = some y6 from by simpa using hf 6 f6 rfl)
      rw [ho6, h6.sz] at k6
      refine ⟨(a0, a1, a2, a3, a4, a5, a6), ⟨_, _, ?_, k0, _, _, rfl, k1, _, _, rfl, k2, _, _, rfl, k3, _, _, rfl, k4, _, _, rfl, k5, k6⟩, ⟨q0, q1, q2, q3, q4, q5, q6⟩, ?_⟩
      · rw [List.drop_zero]
        have hd : (cs.drop (d0.sz + d1.sz + d2.sz + d3.sz + d4.sz + d5.sz)).take d6.sz = cs.drop (d0.sz + d1.sz + d2.sz + d3.sz + d4.sz + d5.sz) := List.take_of_length_le (by rw [List.length_drop]; omega)
        rw [hd, seg_join, seg_join, seg_join, seg_join, seg_join, List.take_append_drop]
      · simp only [List.map_cons, List.map_nil, Rows.uptoBulk, Rows.uptoBulkAll]
        omega
/-- a kind that is told by a structure of its own -/
theorem opens_iso {P : Program} {t : TypeId} {α β : Type} {d : Kd α} {good : α → Prop} {bulk : α → Nat} (h : Opens P t d good bulk) (f : β → α) (g : α → β) (hfg : ∀ a, f (g a) = a) : Opens P t (Kd.iso d f) (fun x => good (f x)) (fun x => bulk (f x)) where
  sz := h.sz
  one := fun x => h.one (f x)
  go := by
    intro H enc w base spare held fuel cs x hx
    obtain ⟨a, k, q, p⟩ := h.go hx
    refine ⟨g a, ?_, ?_, ?_⟩
    · show d.K w (f (g a)) cs
      rw [hfg]; exact k
    · rw [hfg]; exact q
    · rw [hfg]; exact p
/-- an argument's bulk, of the whole's -/
theorem bulk_bound {H : Type} {ds : List (DataW H)} (hk : Rows.uptoSmall H ds = true) : Rows.uptoBulkAll ds ≤ 1048576 := of_decide_eq_true hk

end Go.Proofs.YtmpkigambfghgaaDoor.G

/- Contracts typed by hand: the law JournalReads -/
namespace Go.Proofs.YtmpkigambfghgaaDoor.G
open Go.RowKit Go.Proofs.YtmpkigambfghgaaDoorW.PrintWords Go.Proofs.YtmpkigambfghgaaDoorW.PrintLast Go.Proofs.YtmpkigambfghgaaDoorW.PrintMore
attribute [local go_sem] max2_int min2_int max_two min_two max_three min_three max_four min_four
set_option linter.unusedVariables false
set_option linter.unusedSimpArgs false

/-! the law JournalReads -/
theorem JournalReads_upto (w : World) (x0 : Int) (hg0 : (Lit.int .i64 x0).wf = true) (A1 : Option Addr) (c1 : Nat) (l1 : List Int) (hc1 : l1.length ≤ c1) (hr1 : Kd.C (Kd.int .u8) w A1 l1.length l1) (hg1 : ∀ x ∈ l1, (Lit.int .u8 x).wf = true) (x2 : Int) (hg2 : (Lit.int .i64 x2).wf = true)
    (hbulk : 1 + (sumBulk (fun _ : Int => 1) l1 + 1 + 1) ≤ 1048576) (hTab : TabAt w) :
    Calls Tryd.prog 6 #[.int .i64 x0, .slice A1 l1.length c1, .int .i64 x2] w fun e w' => e = .returned (.bool true) ∧ Below w.heap.size w w' := by
  have hlb := sumBulk_len (fun _ : Int => 1) (fun _ => Nat.le_refl _) l1
  by_cases hv : 32 ≤ x0 ∧ x0 ≤ 32768
  · obtain ⟨blk, rfl⟩ := Int.eq_ofNat_of_zero_le (show 0 ≤ x0 by omega)
    have hb := byt_of_wf hg1
    obtain ⟨outs, how, hrd, hk⟩ := refread blk (by omega) (by omega) l1 hb (by omega) l1.length 0 [] [] false [] (by omega) (Nat.zero_le _) (Nat.le_refl _) (Nat.le_refl _) (fun h => by cases h) (fun _ => rfl)
    exact jreads_good blk A1 c1 l1 x2 outs how (5 * l1.length + 10 * l1.length + 100) w (by omega) (by omega) hr1 hc1 hb (by omega) hrd (by
      unfold moraineref07_Read.f
      exact hk _ (Nat.le_refl _)) hTab
  · exact jreads_bad x0 A1 c1 l1 x2 w hv hr1 hc1 (by omega)

end Go.Proofs.YtmpkigambfghgaaDoor.G
