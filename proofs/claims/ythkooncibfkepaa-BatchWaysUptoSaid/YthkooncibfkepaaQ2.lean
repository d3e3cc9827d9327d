/- Contracts of functions and plain laws, several texts of the session put together by its program. -/
import Derived.Test.YthkooncibfkepaaProg
import Derived.Below
import Derived.Deep.Draws
import Derived.Deep.AppendLies
import Derived.Maps.AppendAt
import Derived.OwnWalk
import Derived.Laws.BytesArg
import Derived.Laws.MakeOwn
import Derived.Laws.OwnMore
import Derived.Deep.OwnRows
import Derived.Tactics
import Derived.Lib.ConvBytes
import Derived.Laws.Slices
import Derived.WalkKit
import Derived.KernelRfl
import Derived.RowKit3
import Derived.Deep.LoopGhost
import Derived.Deep.QuietTactic
import Derived.BigQuiet
import Derived.WideLaws
import Derived.Deep.DeepCutAuto
import Derived.Deep.CutBlock
import Derived.Deep.RegionHeld3
import Derived.Laws.Rows
import Derived.Lib.AppendStr
import Derived.ArgAppend
import Derived.Laws.IdiomCopy
import Derived.OrdersHeld
import Derived.Laws.BitsLemmas
import Derived.RowKit
import Derived.Test.YthkooncibfkepaaWWords
import Derived.Test.YthkooncibfkepaaWLast
import Derived.Test.YthkooncibfkepaaWTab
import Derived.Test.YthkooncibfkepaaWFour
import Derived.Test.YthkooncibfkepaaWQPut
import Derived.Test.YthkooncibfkepaaWApart
import Derived.Test.YthkooncibfkepaaWArr
import Derived.Test.YthkooncibfkepaaWZeros
import Derived.Test.YthkooncibfkepaaWFoot
import Derived.Test.YthkooncibfkepaaWKept
import Derived.Test.YthkooncibfkepaaWShare
import Derived.Test.YthkooncibfkepaaWN
import Derived.Test.YthkooncibfkepaaWFootNe
import Derived.Test.YthkooncibfkepaaWAt
import Derived.Test.YthkooncibfkepaaWEqStruct
import Derived.Test.YthkooncibfkepaaWRepsOne
import Derived.Test.YthkooncibfkepaaWInv
import Derived.Test.YthkooncibfkepaaWInvWords
import Derived.Test.YthkooncibfkepaaWGuard
import Derived.Test.YthkooncibfkepaaWNEv
import Derived.Test.YthkooncibfkepaaWMore
import Derived.Test.YthkooncibfkepaaQ1
import Derived.BigRegionIn
import Derived.RangeFuncNested
import Derived.RangeFuncBound
import Derived.RangeFuncCalls
import Derived.RangeFuncLeaves
import Derived.RangeFuncBox
import Derived.RangeFuncRecord
import Derived.Shelf.Abstract
import Derived.OwnWalkIn
import Derived.TacticsInMore
import Derived.LoopNIn
import Derived.LoopIn
import Derived.Sort.QuietIn
import Derived.Test.YthkooncibfkepaaRows
import Derived.Deep.Slices
import Derived.Deep.Fields
import Derived.ChangeSame
import Derived.Deep.Strs
import Derived.Lib.SmallJoins
import Derived.Test.YthkooncibfkepaaQ0

/- Contracts typed by hand: batch.Decode: a batch of bytes, by a range over batch.all -/
namespace Go.Proofs.Ythkooncibfkepaa.G
open Go.RowKit Go.Proofs.YthkooncibfkepaaW.PrintWords Go.Proofs.YthkooncibfkepaaW.PrintLast Go.Proofs.YthkooncibfkepaaW.PrintMore
attribute [local go_sem] max2_int min2_int max_two min_two max_three min_three max_four min_four
set_option linter.unusedVariables false
set_option linter.unusedSimpArgs false

/-! batch.Decode: a batch of bytes, by a range over batch.all -/
open Go.Shelf
attribute [local go_sem] Oper.semAt_some
def opsCells (l : List Op04) : List Value := l.flatMap fun x => [.int .i64 x.f0, .string x.f1, .string x.f2]
theorem opsCells_snoc (l : List Op04) (x : Op04) : opsCells (l ++ [x]) = opsCells l ++ [.int .i64 x.f0, .string x.f1, .string x.f2] := by simp [opsCells]
theorem opsCells_reps (w : World) (b : Nat) (ok : Nat → Prop) : ∀ (l : List Op04), Reps (k65.M w b ok) 3 l (opsCells l)
  | [] => Reps.none _ _
  | x :: r => by
    have ih := opsCells_reps w b ok r
    exact Reps.c3 (k65_mkM w b ok x) ih
theorem R_of_ops {w : World} {base : Nat} {v : Value} {l : List Op04} (h : w.ownsRow base 65 3 v l.length (opsCells l)) : Kd.R k65 65 w base (fun _ => True) v l := ⟨fun _ _ => trivial, opsCells l, h, opsCells_reps _ _ _ l⟩
def lastEnd (l : List Gone) : Int := match l.getLast? with | some g => g.2.2 | none => 12
theorem lastEnd_snoc (l : List Gone) (g : Gone) : lastEnd (l ++ [g]) = g.2.2 := by simp [lastEnd]
def opsOf04 (l : List Gone) : List Op04 := l.map (fun g => g.2.1)
theorem opsOf_snoc (l : List Gone) (g : Gone) : opsOf04 (l ++ [g]) = opsOf04 l ++ [g.2.1] := by simp [opsOf04]
theorem opsOf_len (l : List Gone) : (opsOf04 l).length = l.length := by simp [opsOf04]
/-- what Decode answers -/
def decB (b : List Int) : Int × List Op04 × Int :=
  if b.length < 12 then (0, [], 41) else
  if (chk (opsOf04 (goneL b))).2 = 0 ∧ ((goneL b).length : Int) = le (seg b 8 4) ∧ lastEnd (goneL b) = (b.length : Int) ∧ fitB (le (seg b 0 8)) (le (seg b 8 4)).toNat = true then (le (seg b 0 8), opsOf04 (goneL b), 0) else (0, [], 41)
theorem kpS_putObj (n₀ : Nat) (S : Nat → Prop) (W : World) (l : Nat) (o' : Obj) (h : n₀ ≤ l) : KpS n₀ S W (W.putObj l o') :=
  ⟨(grownBy_putObj' W l o').size, fun k hk _ => World.putObj_heap_other (by omega)⟩
theorem all_stops (n₀ Bn : Nat) (S : Nat → Prop) (A : Option Addr) (c : Nat) (b : List Int) (w : World) (hb : Bytes b) (hlen : b.length ≤ 1099511627776) (hc : b.length ≤ c) (hn : n₀ ≤ w.heap.size)
    (hread : ∀ W', KpS n₀ S w W' → Kd.C (Kd.int .u8) W' A b.length b ∧ W'.cell? ⟨Bn, 0, none⟩ = some (.slice A b.length c)) :
    SeqStopsK Fence.wide 2 Try.prog 76 #[.pointer (some ⟨Bn, 0, none⟩)] encG (KpS n₀ S) (fun ys => ys = goneL b) (fun pre => pre <+: goneL b) (goneL b).length w := fun l J Jx W hW hJ _ hY h0 =>
  all1_in l n₀ Bn S A c b hb hlen hc J Jx W (Nat.le_trans hn hW.size) (fun W' hK => hread W' (((KpS.refl n₀ S w).below hn hW).trans hK))
    (fun pre W1 W2 hs hb2 => hJ pre W1 W2 none hs (grown_of_below hb2 none) (fun r e => by cases e)) hY h0
theorem boxed_own (B : Nat) (t : TypeId) (v : Value) : Own (fun (_ : Unit) W => Boxed W B t v) := fun s X Y row h hg hrow => h.kept hg (fun e' => by
  obtain ⟨o, ho, hc⟩ := hrow B e'.symm
  rw [show X.heap[B]? = _ from h] at ho; cases ho; cases hc)
theorem cells_own (B : Nat) (cs : Array Value) (t : TypeId) : ∀ (X Y : World) (row : Option Nat), X.heap[B]? = some (.cells cs t (0, 0)) → X.grownBy Y row → (∀ r, row = some r → ∃ o : Obj, X.heap[r]? = some o ∧ o.isCells = false) → Y.heap[B]? = some (.cells cs t (0, 0)) := fun X Y row h hg hrow =>
  (hg.block B (blk_lt h) (fun e' => by
    obtain ⟨o, ho, hc⟩ := hrow B e'.symm
    rw [h] at ho; cases ho; cases hc)).trans h
theorem row_own {n₀ : Nat} {e : TypeId} {size k : Nat} {v : Value} {xs : List Value} : ∀ (X Y : World) (row : Option Nat), X.ownsRow n₀ e size v k xs → X.grownBy Y row → (∀ r, row = some r → ∃ o : Obj, X.heap[r]? = some o ∧ o.isCells = false) → Y.ownsRow n₀ e size v k xs := by
  intro X Y row hr hg hrow
  refine hr.kept hg ?_
  rcases hr.2 with ⟨rfl, _⟩ | ⟨g, cap, cur, rfl, _, hgb, _⟩
  · exact .inl rfl
  · refine .inr fun e' => ?_
    obtain ⟨o, ho, hc⟩ := hrow g (by simpa [Value.ownBlock] using e'.symm)
    rw [hgb] at ho; cases ho; cases hc
theorem results_tct {P : Program} {fn : Func} {u p v : Tmp} {ty e : TypeId} (h : fn.results = #[.tmp u, .cell p ty, .tmp v]) (tmps : Array Value) (w : World) (g : Nat) (x : Value)
    (hp : tmps.getD p undef = .pointer (some ⟨g, 0, none⟩)) (hg : w.cell? ⟨g, 0, none⟩ = some x) (hu : P.underlying ty = some (.slice e)) :
    (results fn tmps).run P w = .ok (.tuple #[tmps.getD u undef, x, tmps.getD v undef]) w := by
  have hp' : tmps[p]?.getD undef = .pointer (some ⟨g, 0, none⟩) := by simpa using hp
  simp [results, h, hp', asAddr, loadVar, isAgg, run_underlying hu, hg, go_sem]
theorem dec_end (w X : World) (D : Nat) (v : Value) (L : List Op04) (tmps : Array Value) (s z : Int) (hV : Boxed X w.heap.size 22 v) (hrow : X.ownsRow w.heap.size 65 3 v L.length (opsCells L)) (hb : Below w.heap.size w X)
    (hK : X.heap[D]? = some (.deferred (some []))) (hD : w.heap.size + 3 ≤ D) (t2 : tmps.getD 2 undef = .int .u64 s) (t3 : tmps.getD 3 undef = .pointer (some ⟨w.heap.size, 0, none⟩)) (t4 : tmps.getD 4 undef = .int .i64 z) :
    bodyPostM Fence.wide 3 Try.prog Try.f33 (fun e w' => ∃ v0_ : Value, e = .returned (.tuple #[.int .u64 s, v0_, .int .i64 z]) ∧ Kd.R k65 65 w' w.heap.size (fun _ => True) v0_ L ∧ Below w.heap.size w w') Exit.ret { tmps := tmps, defers := [{ target := .collected D, args := #[] }] } X := by
  refine ⟨by simp, .inl ⟨_, _, rfl, run_takeDeferred hK, ?_⟩⟩
  refine ⟨_, results_tct rfl _ _ w.heap.size v t3 (hV.kept (grownBy_putObj' X D _) (by simp; omega)).cell Try.underlying22, v, ?_, R_of_ops (ownsRow_putObj hrow _ hK rfl), hb.trans (belowK_b (w := w) (Nat.le_refl _) X D _ _ (by omega) hK rfl rfl)⟩
  rw [t2, t4]
/-- what holds of the two variables that the rounds write -/
def DecI (w : World) (n₀ : Nat) (pre : List Gone) (W : World) : Prop :=
  (∃ v, Boxed W w.heap.size 22 v ∧ W.ownsRow n₀ 65 3 v pre.length (opsCells (opsOf04 pre))) ∧ Boxed W (w.heap.size + 1) 3 (.int .i64 (lastEnd pre)) ∧ Below w.heap.size w W ∧ n₀ ≤ W.heap.size
theorem decI_own (w : World) (n₀ B : Nat) (hB : w.heap.size ≤ B) : OwnFrom B (DecI w n₀) := by
  rintro pre X Y row ⟨⟨v, h1, h2⟩, h3, h4, h5⟩ hg hr
  have hr' : ∀ r, row = some r → ∃ o : Obj, X.heap[r]? = some o ∧ o.isCells = false := fun r e => (hr r e).2
  exact ⟨⟨v, cells_own _ _ _ X Y row h1 hg hr', row_own X Y row h2 hg hr'⟩, cells_own _ _ _ X Y row h3 hg hr', h4.grown hg h4.size (fun k e => by have := (hr k e).1; omega), Nat.le_trans h5 hg.size⟩
def goneCells (g : Gone) : Array Value := #[.int .u64 g.1, .int .i64 g.2.1.f0, .string g.2.1.f1, .string g.2.1.f2, .int .i64 g.2.2]
/-- what lies below, os and tape apart, keeps what is read -/
theorem C_of_heap {w W : World} {A : Option Addr} {b : List Int} (h : Kd.C (Kd.int .u8) w A b.length b) (hs : w.heap.size ≤ W.heap.size) (hk : ∀ k, k < w.heap.size → W.heap[k]? = w.heap[k]?) : Kd.C (Kd.int .u8) W A b.length b :=
  (Kd.C_below (w1 := { W with os := w.os, tape := w.tape, output := w.output }) h ⟨rfl, rfl, rfl, hs, hk⟩ : Kd.C (Kd.int .u8) { W with os := w.os, tape := w.tape, output := w.output } A b.length b)
theorem gos_len (l : List Int) (seq : Int) : ∀ (d i : Nat) (p : Int), Bytes l → l.length ≤ 1099511627776 → 0 ≤ p → p ≤ l.length → p + ((gos l seq d i p).length : Int) ≤ l.length
  | 0, _, p, _, _, _, h => by simp [gos]; omega
  | d + 1, i, p, hb, hl, h0, h => by
    unfold gos
    split
    · rename_i hr
      have h1 := rdR_next l hb hl p hr
      have h2 := gos_len l seq d (i + 1) (rdR l p).2.1 hb hl h1.1 h1.2.2
      rw [List.length_cons]
      push_cast
      omega
    · simp; omega
theorem goneL_len (l : List Int) (hb : Bytes l) (hl : l.length ≤ 1099511627776) : (goneL l).length ≤ l.length := by
  unfold goneL
  split
  · simp
  · have := gos_len l (le (seg l 0 8)) (le (seg l 8 4)).toNat 0 12 hb hl (by omega) (by omega)
    omega
theorem txt_size (l : List Int) (p : Int) (hb : Bytes l) (hl : l.length ≤ 1099511627776) : (txt l p).1.size ≤ l.length := by
  obtain ⟨v, n, e, hv, h⟩ := varint_some l p hb (by omega)
  unfold txt codec_Text.f
  rw [hv, Option.bind_some]
  rcases h with ⟨rfl, v0, v1, p0, n0, n1⟩ | ⟨he, e0, e1, rfl, rfl⟩
  · simp only [if_true]
    rw [if_pos v0, if_pos (by omega), if_pos n1, if_pos (by omega)]
    by_cases h2 : v > (l.length : Int) - n
    · rw [if_pos h2]; simp
    · rw [if_neg h2]
      show (strOfNums _).size ≤ _
      unfold strOfNums
      simp [ByteArray.size, List.length_take, List.length_drop]
      omega
  · simp only []
    rw [if_neg he]
    simp
theorem rdR_size (l : List Int) (p : Int) (hb : Bytes l) (hl : l.length ≤ 1048576) : (rdR l p).1.f1.size ≤ 1048576 ∧ (rdR l p).1.f2.size ≤ 1048576 := by
  have h1 := txt_size l (p + 1) hb (by omega)
  have h2 := txt_size l (txt l (p + 1)).2.1 hb (by omega)
  have h3 : (⟨#[]⟩ : ByteArray).size = 0 := rfl
  unfold rdR
  repeat' split
  all_goals (refine ⟨?_, ?_⟩ <;> simp only [] <;> omega)
theorem gos_sane (l : List Int) (seq : Int) (hb : Bytes l) (hl : l.length ≤ 1048576) : ∀ (d i : Nat) (p : Int), ∀ g ∈ gos l seq d i p, g.2.1.f1.size ≤ 1048576 ∧ g.2.1.f2.size ≤ 1048576
  | 0, _, _, g, h => by simp [gos] at h
  | d + 1, i, p, g, h => by
    unfold gos at h
    split at h
    · rcases List.mem_cons.1 h with rfl | h
      · exact rdR_size l p hb hl
      · exact gos_sane l seq hb hl d (i + 1) _ g h
    · simp at h
theorem sane_gone (l : List Int) (hb : Bytes l) (hl : l.length ≤ 1048576) : Sane (opsOf04 (goneL l)) := by
  have hn := goneL_len l hb (by omega)
  refine ⟨by rw [opsOf_len]; omega, ?_⟩
  intro x hx
  unfold opsOf04 at hx
  obtain ⟨g, hg, rfl⟩ := List.mem_map.1 hx
  unfold goneL at hg
  split at hg
  · simp at hg
  · exact gos_sane l _ hb hl _ _ _ g hg
theorem cells3_new (W : World) (x y z : Value) (t : TypeId) : ∀ (j : Nat) (u : Value), [x, y, z][j]? = some u → (W.alloc (.cells #[x, y, z] t)).cell? ((⟨W.heap.size, 0, none⟩ : Addr).add j) = some u := by
  intro j u h
  have e := World.alloc_heap_new W (.cells #[x, y, z] t)
  revert e
  generalize W.alloc (.cells #[x, y, z] t) = X
  intro e
  rcases j with _ | _ | _ | j
  · simp at h; subst h; simp [World.cell?, Addr.add, e]
  · simp at h; subst h; simp [World.cell?, Addr.add, e]
  · simp at h; subst h; simp [World.cell?, Addr.add, e]
  · simp at h
/-- a round's activation -/
def decAx (w : World) (A : Option Addr) (c : Nat) (b : List Int) (seq cnt : Int) (g : Gone) (a' : Act) (W : World) : Prop :=
  ∃ Bx, w.heap.size + 3 ≤ Bx ∧ W.heap[Bx]? = some (.cells (goneCells g) 100 (0, 0)) ∧ a' = { tmps := #[.slice A b.length c, undef, .int .u64 seq, .pointer (some ⟨w.heap.size, 0, none⟩), .int .i64 0, .int .i64 cnt, .int .i64 0, .pointer (some ⟨w.heap.size + 1, 0, none⟩), .pointer (some ⟨Bx, 0, none⟩), undef, undef, .tuple #[.int .u64 seq, .int .i64 cnt, .int .i64 0], .slice A b.length c, .tuple #[.int .u64 seq, .int .i64 cnt, .int .i64 0], .int .u64 seq, .int .i64 cnt, .int .i64 0, .int .i64 0, .bool false, undef, .slice A b.length c, .func (.func 76) #[] #[.pointer (some ⟨w.heap.size + 2, 0, none⟩)], .agg (goneCells g), undef, undef, undef, undef, undef, undef, undef, undef, undef, undef, undef, undef, undef, undef, undef, undef, undef, undef, undef, undef, undef, undef, undef, undef, undef, undef, undef, undef, undef, undef, undef, undef, undef, undef], defers := [] }
set_option maxHeartbeats 8000000 in
set_option maxRecDepth 100000 in
theorem batch_Decode_callsW (A : Option Addr) (c : Nat) (b : List Int) (w : World) (hr0 : Kd.C (Kd.int .u8) w A b.length b) (hc : b.length ≤ c) (hb : Bytes b) (hlen : b.length ≤ 4194304) (hsn : Sane (opsOf04 (goneL b))) :
    Calls Try.prog 33 #[.slice A b.length c] w fun e w' => ∃ v0_ : Value, e = .returned (.tuple #[.int .u64 (decB b).1, v0_, .int .i64 (decB b).2.2]) ∧ Kd.R k65 65 w' w.heap.size (fun _ => True) v0_ (decB b).2.1 ∧ Below w.heap.size w w' := by
  have HSN := Aside0.mk hsn
  clear hsn
  have HR := Aside0.mk hr0
  have HC := Aside0.mk hc
  have HBY := Aside0.mk hb
  have HLEN := Aside0.mk hlen
  have HB0 := Aside0.mk (below_alloc (Below.refl w.heap.size w) (.cells #[.slice none 0 0] 22))
  have BX0 := Aside0.mk (Boxed.new w 22 (.slice none 0 0))
  have HHD := Aside0.mk (head_eq 10 b hb (by omega) (Nat.le_refl _))
  unfold headR at HHD
  refine (callsIn_wide (n := 3)).1 ?_
  by_cases h12 : b.length < 12
  · rw [if_pos h12] at HHD
    have e : decB b = (0, [], 41) := by unfold decB; rw [if_pos h12]
    rw [e]
    clear e hr0 hc hb hlen h12
    refine callsIn_of_wp_marks Try.func33 rfl trivial ?_ rfl
    simp only [Try.ntmps33, List.size_toArray, List.length_cons, List.length_nil, Nat.reduceAdd, Nat.reduceSub, Array.replicate_succ, Array.replicate_zero, List.push_toArray, List.append_toArray, List.nil_append, List.cons_append]
    gi_wp2_with fail
    refine ⟨trivial, ?_⟩
    (with_reducible refine (callsIn_wide.2 (batch_Head.calls 10 A c b _ _ _ _ (Kd.C_below HR.out HB0.out) HC.out HHD.out)).mono ?_)
    rintro e w1 ⟨rfl, hd⟩
    have HB1 := Aside0.mk (below_step HB0.out hd.below)
    have bx1 := (hd.below.block _ (blk_lt BX0.out)).trans BX0.out
    have x0 := blk_cell bx1 0
    have y0 := blk_frozen bx1 0
    clear hd
    gi_wp2
    exact ⟨_, results_tct rfl _ _ w.heap.size (.slice none 0 0) rfl (blk_cell (blk_put (cs := #[.slice none 0 0]) bx1 0 _ rfl) 0) Try.underlying22, _, rfl, Kd.R_nil _ _ _ _ _, below_set HB1.out (Nat.le_refl _)⟩
  · rw [if_neg h12] at HHD
    obtain ⟨seq, hseq⟩ : ∃ seq, le (seg b 0 8) = seq := ⟨_, rfl⟩
    obtain ⟨cnt, hcnt⟩ : ∃ cnt, le (seg b 8 4) = cnt := ⟨_, rfl⟩
    have hs8 := seg8_small b hb
    have hs4 := seg4_small b hb
    rw [hseq] at hs8 HHD
    rw [hcnt] at hs4 HHD
    obtain ⟨DB, hDB⟩ : ∃ DB, decB b = DB := ⟨_, rfl⟩
    have hDB2 := hDB
    unfold decB at hDB2
    rw [if_neg h12, hseq, hcnt] at hDB2
    have HDB := Aside0.mk hDB2
    rw [hDB]
    clear hDB hDB2 hseq hcnt hr0 hc hb hlen h12
    refine callsIn_of_wp_marks Try.func33 rfl trivial ?_ rfl
    simp only [Try.ntmps33, List.size_toArray, List.length_cons, List.length_nil, Nat.reduceAdd, Nat.reduceSub, Array.replicate_succ, Array.replicate_zero, List.push_toArray, List.append_toArray, List.nil_append, List.cons_append]
    gi_wp2_with fail
    refine ⟨trivial, ?_⟩
    (with_reducible refine (callsIn_wide.2 (batch_Head.calls 10 A c b _ _ _ _ (Kd.C_below HR.out HB0.out) HC.out HHD.out)).mono ?_)
    rintro e w1 ⟨rfl, hd⟩
    have HB1 := Aside0.mk (below_step HB0.out hd.below)
    have BX1 := Aside0.mk (show Boxed w1 w.heap.size 22 (.slice none 0 0) from (hd.below.block _ (blk_lt BX0.out)).trans BX0.out)
    have HSZ := Aside0.mk (show w1.heap.size = w.heap.size + 1 by obtain ⟨nd, e⟩ := hd.out; rw [e]; simp)
    clear hd
    gi_wp2_with fail
    refine ⟨trivial, ?_⟩
    (with_reducible refine (callsIn_wide.2 (all_calls A b.length c _)).mono ?_)
    rintro e w2 ⟨rfl, rfl⟩
    rw [show (w1.alloc (.cells #[.int .i64 12] 3)).heap.size = w.heap.size + 2 by rw [World.size_alloc, HSZ.out]]
    have HSZ1 := HSZ.out
    gi_wp2
    obtain ⟨W0, hW0⟩ : ∃ W0, (w1.alloc (.cells #[.int .i64 12] 3)).alloc (.cells #[.slice A b.length c] 33) = W0 := ⟨_, rfl⟩
    have hz0 : W0.heap.size = w.heap.size + 3 := by rw [← hW0, World.size_alloc, World.size_alloc, HSZ1]
    have hx0 : Boxed W0 w.heap.size 22 (.slice none 0 0) := by rw [← hW0]; exact (BX1.out.alloc _).alloc _
    have hx1 : Boxed W0 (w.heap.size + 1) 3 (.int .i64 12) := by
      have := (Boxed.new w1 3 (.int .i64 12)).alloc (.cells #[.slice A b.length c] 33)
      rw [← hW0]; rwa [HSZ1] at this
    have hx2 : Boxed W0 (w.heap.size + 2) 33 (.slice A b.length c) := by
      have := Boxed.new (w1.alloc (.cells #[.int .i64 12] 3)) 33 (.slice A b.length c)
      rw [World.size_alloc, HSZ1] at this
      rw [← hW0]; exact this
    have hb0 : Below w.heap.size w W0 := by rw [← hW0]; exact below_alloc (below_alloc HB1.out _) _
    rw [hW0]
    clear hW0
    have hz0' : W0.heap.size = w.heap.size + 3 := hz0
    refine wpIn_rangeFunc_ownH (n := 3) (F := Fence.wide) rfl (by decide) (gf := 76) (lb := #[.pointer (some ⟨w.heap.size + 2, 0, none⟩)]) rfl trivial (enters_of Try.func76 (by kernel_rfl) rfl)
      (all_stops (w.heap.size + 3) (w.heap.size + 2) (fun k => k = w.heap.size ∨ k = w.heap.size + 1) A c b W0 HBY.out (Nat.le_trans HLEN.out (by decide)) HC.out (by omega) ?read) KpS.trans ?put (Below.refl _ _) (fun _ => rfl)
      (DecI w (w.heap.size + 3)) (fun _ _ _ => False) (decI_own w _ _ (by omega)) (fun _ _ _ _ _ hs _ _ => hs) ?init (decAx w A c b seq cnt) ?ax ?assign ?body ?done ?stop
    case read =>
      intro W' hK
      refine ⟨C_of_heap HR.out (Nat.le_trans hb0.size hK.1) (fun k hk => (hK.2 k (by omega) (by omega)).trans (hb0.block k hk)), ?_⟩
      exact (show Boxed W' (w.heap.size + 2) 33 (.slice A b.length c) from (hK.2 _ (by omega) (by omega)).trans hx2).cell
    case put =>
      intro W l o o' hl _ _ _
      exact kpS_putObj _ _ W l o' (by omega)
    case init => exact ⟨⟨_, hx0, World.ownsRow_nil _ _ _ _⟩, hx1, hb0, by omega⟩
    case ax =>
      rintro g a' _ X Y row ⟨Bx, h1, h2, h3⟩ hg hr
      exact ⟨Bx, h1, cells_own Bx _ _ X Y row h2 hg (fun r e => (hr r e).2), h3⟩
    case assign =>
      rintro l pre g W K hI hK
      have hws := hI.2.2.2
      simp only [encG]
      gi_wp2
      exact hK _ _ ((KeepsOthers.alloc W _).from _) ⟨by rw [World.size_alloc]; omega, fun k hk _ => Below.heap_alloc W _ k (by omega)⟩ ((decI_own w (w.heap.size + 3) W0.heap.size (by omega)).alloc _ hI) ⟨W.heap.size, hws, World.alloc_heap_new W _, rfl⟩
    case body =>
      rintro l pre g a' W hl hr ⟨⟨v, hv, hrow⟩, he, hbw, hws⟩ ⟨Bx, hBx, hbx, rfl⟩ hlt
      have hgl := goneL_len b HBY.out (Nat.le_trans HLEN.out (by decide))
      have hl0 := HSN.out.1
      rw [opsOf_len] at hl0
      have hpl : pre.length < 1048576 := by omega
      have hc := hv.cell
      have hbx' : W.heap[Bx]? = some (.cells #[.int .u64 g.1, .int .i64 g.2.1.f0, .string g.2.1.f1, .string g.2.1.f2, .int .i64 g.2.2] 100 (0, 0)) := hbx
      have hc1 : W.cell? ⟨Bx, 1, none⟩ = some (.int .i64 g.2.1.f0) := by simp [World.cell?, hbx']
      have hc2 : W.cell? ⟨Bx, 2, none⟩ = some (.string g.2.1.f1) := by simp [World.cell?, hbx']
      have hc3 : W.cell? ⟨Bx, 3, none⟩ = some (.string g.2.1.f2) := by simp [World.cell?, hbx']
      have hne : some Bx ≠ v.ownBlock := by
        rcases hrow.2 with ⟨rfl, _⟩ | ⟨g', cap, cur, rfl, _, hgb, _⟩
        · simp [Value.ownBlock]
        · intro e
          obtain rfl : Bx = g' := by simpa [Value.ownBlock] using e
          rw [hbx] at hgb
          cases hgb
      have hoff : ∀ j, v.ownBlock = some j → w.heap.size + 3 ≤ j := by
        intro j e
        rcases hrow.2 with ⟨rfl, _⟩ | ⟨g', cap, cur, rfl, hb', _, _⟩
        · simp [Value.ownBlock] at e
        · obtain rfl : g' = j := by simpa [Value.ownBlock] using e
          exact hb'
      have hcl : ∀ (T : Obj) (j : Nat) (o : Obj), v.ownBlock = some j → (W.alloc T).heap[j]? = some o → o.isCells = true := by
        intro T j o ej hj
        rcases (hrow.alloc T).2 with ⟨rfl, _⟩ | ⟨g2, cap, cur, rfl, _, hgb, _⟩
        · simp [Value.ownBlock] at ej
        · obtain rfl : g2 = j := by simpa [Value.ownBlock] using ej
          rw [hgb] at hj; cases hj; rfl
      have hinfo : (Try.prog.info? 65).map (fun i => (i.zero, i.size, i.bytes)) = some (some (.agg #[.int .i64 0, .string ⟨#[]⟩, .string ⟨#[]⟩]), 3, 40) := by kernel_rfl
      obtain ⟨i0, hi, hz0, hz1, hz2⟩ := info_parts hinfo
      clear hl0 hgl hlt
      gi_wp2_with (gi_at_builtin; refine wpListIn_append_own _ rfl _ _ 22 rfl (w.heap.size + 3) 65 i0 _ 3 40 Try.underlying22 hi hz0 hz1 hz2 rfl (by decide) _ _ _ rfl (hrow.alloc _) ⟨W.heap.size, 0, none⟩ 1 1 [.int .i64 g.2.1.f0, .string g.2.1.f1, .string g.2.1.f2] rfl rfl (cells3_new _ _ _ _ _) (by simp [Value.oneCell']) (by unfold maxLen; omega) (by omega) (by rw [World.size_alloc]; omega) ?_; intro v' W1 hown' hgrow _; obtain ⟨g', cap', rfl⟩ := ownsRow_succ hown'; have hv1 := (hv.alloc _).kept hgrow (hv.not_row (by decide) hrow); have he1 := (he.alloc _).kept hgrow (he.not_row (by decide) hrow); have hb1 : W1.heap[Bx]? = _ := (hgrow.block Bx (by rw [World.size_alloc]; exact Nat.lt_succ_of_lt (blk_lt hbx)) hne).trans ((Below.heap_alloc _ _ _ (blk_lt hbx)).trans hbx'); have hv2 := hv1.set (.slice (some ⟨g', 0, none⟩) (pre.length + 1) cap'); have he2 := he1.other (show w.heap.size + 1 ≠ w.heap.size by omega) (.slice (some ⟨g', 0, none⟩) (pre.length + 1) cap'); have hb2 := (Below.heap_setCell W1 ⟨w.heap.size, 0, none⟩ (.slice (some ⟨g', 0, none⟩) (pre.length + 1) cap') Bx (by show Bx ≠ w.heap.size; omega)).trans hb1; have hk1 := hv1.cell; have hk2 := hv1.frozen; have hk3 := he2.cell; have hk4 := he2.frozen; have hk5 := (show (W1.setCell ⟨w.heap.size, 0, none⟩ (.slice (some ⟨g', 0, none⟩) (pre.length + 1) cap')).cell? ⟨Bx, 4, none⟩ = some (.int .i64 g.2.2) by simp [World.cell?, hb2]))
      have hw1 : W.heap.size + 1 ≤ W1.heap.size := by have := hgrow.size; rwa [World.size_alloc] at this
      have hs1 := (KeepsWalks.setCell W1 ⟨w.heap.size, 0, none⟩ (.slice (some ⟨g', 0, none⟩) (pre.length + 1) cap')).size
      have hs2 := (KeepsWalks.setCell (W1.setCell ⟨w.heap.size, 0, none⟩ (.slice (some ⟨g', 0, none⟩) (pre.length + 1) cap')) ⟨w.heap.size + 1, 0, none⟩ (.int .i64 g.2.2)).size
      have hr1 := hown'.kept (grownBy_setCell' W1 w.heap.size (.slice (some ⟨g', 0, none⟩) (pre.length + 1) cap')) (.inr (hv1.not_row (by decide) hown').symm)
      have hr2 := hr1.kept (grownBy_setCell' _ (w.heap.size + 1) (.int .i64 g.2.2)) (.inr (he2.not_row (by decide) hr1).symm)
      refine ⟨KeepsOthers.from ((((KeepsOthers.alloc W _).trans (KeepsOthers.of_grownBy hgrow fun j o ej hj => ?_)).trans (KeepsOthers.setCell _ _ _)).trans (KeepsOthers.setCell _ _ _)) _, ⟨by omega, fun k hk hS => ?_⟩, ⟨_, hv2.other (by omega) _, ?_⟩, ?_, hbw.trans (((((Below.refl w.heap.size W).alloc (by omega) _).grown hgrow (by rw [World.size_alloc]; omega) (fun j ej => by have := hoff j ej; omega)).setCell (p := ⟨w.heap.size, 0, none⟩) (Nat.le_refl _) _).setCell (p := ⟨w.heap.size + 1, 0, none⟩) (Nat.le_succ _) _), by omega⟩
      · exact hcl _ j o ej hj
      · have h1 : k ≠ w.heap.size := fun e => hS (.inl e)
        have h2 : k ≠ w.heap.size + 1 := fun e => hS (.inr e)
        exact (Below.heap_setCell _ ⟨w.heap.size + 1, 0, none⟩ _ k h2).trans ((Below.heap_setCell W1 ⟨w.heap.size, 0, none⟩ _ k h1).trans ((hgrow.block k (by rw [World.size_alloc]; omega) (fun e => by have := hoff k e.symm; omega)).trans (Below.heap_alloc W _ k (by omega))))
      · rw [opsOf_snoc, opsCells_snoc, List.length_append]
        exact hr2
      · rw [lastEnd_snoc]
        exact he2.set _
    case done =>
      rintro D ys W hD rfl ⟨⟨v, hv, hrow⟩, he, hbw, hws⟩ hK
      have hbase : W.ownsRow w.heap.size 65 3 v (goneL b).length (opsCells (opsOf04 (goneL b))) := ⟨hrow.1, hrow.2.imp (fun h => h) (fun ⟨g', cap, cur, e, hb', h⟩ => ⟨g', cap, cur, e, by omega, h⟩)⟩
      have hR := R_of_ops (by rw [opsOf_len]; exact hbase)
      have hc := hv.cell
      have he' := he.cell
      have HSANE := HSN
      have HN := Aside0.mk (show (goneL b).length ≤ 1048576 by have := HSN.out.1; rwa [opsOf_len] at this)
      have HBW := Aside0.mk hbw
      have HOPS := Aside0.mk (opsOf_len (goneL b))
      have HD := Aside0.mk hD
      have HK := Aside0.mk hK
      have HE := Aside0.mk he
      have HV := Aside0.mk hv
      have HDB2 := HDB.out
      have HDBX := Aside0.mk HDB2
      clear hbw HDB2 hK hv he hD
      generalize opsOf04 (goneL b) = L at *
      obtain ⟨A1, c1, rfl, hl1, hr1⟩ := Kd.R_reads hR
      have HRR := Aside0.mk hR
      have HL1 := Aside0.mk hl1
      have HR1 := Aside0.mk hr1
      have HBASE := Aside0.mk hbase
      clear hR hl1 hr1 hbase hrow
      generalize (goneL b).length = NN at *
      generalize lastEnd (goneL b) = EE at *
      gi_wp2_with fail
      refine ⟨trivial, ?_⟩
      (with_reducible refine (callsIn_wide.2 (batch_Check.calls (11 + L.length) A1 c1 L _ _ _ HR1.out HL1.out (check_eq _ L HSANE.out (Nat.le_refl _)))).mono ?_)
      rintro e w5 ⟨rfl, hb5⟩
      have g5 : W.grownBy w5 none := ⟨hb5.os, hb5.tape, hb5.output, hb5.size, fun k hk _ => hb5.block k hk⟩
      have V5 := HV.out.kept g5 (by simp)
      have E5 := HE.out.kept g5 (by simp)
      have HK5 := Aside0.mk ((hb5.block D (blk_lt HK.out)).trans HK.out)
      have HBASE5 := Aside0.mk (row_own W w5 none HBASE.out g5 (fun r e => by cases e))
      have HBW5 := Aside0.mk (HBW.out.trans (hb5.mono (by have := blk_lt HV.out; omega)))
      have x1 := V5.cell
      have x2 := V5.frozen
      have x3 := E5.cell
      have HV5 := Aside0.mk V5
      have HCK := HDBX.out
      clear HDBX g5 V5 E5 hb5
      generalize chk L = ck at *
      obtain ⟨ci, ce⟩ := ck
      have HDX := Aside0.mk HCK
      clear HCK
      dsimp only []
      by_cases k1 : ce = 0
      rotate_left
      · gi_wp2
        refine ⟨trivial, ?_⟩
        gi_wp2
        have hDB : DB = (0, [], 41) := by have h := HDX.out; rw [if_neg (fun h => k1 h.1)] at h; exact h.symm
        rw [hDB]
        exact dec_end w _ D (.slice none 0 0) [] _ 0 41 (HV5.out.set _) (World.ownsRow_nil _ _ _ _) (HBW5.out.setCell (p := ⟨w.heap.size, 0, none⟩) (Nat.le_refl _) _) ((Below.heap_setCell _ _ _ D (by have := HD.out; show D ≠ w.heap.size; omega)).trans HK5.out) (by have := HD.out; omega) rfl rfl rfl
      subst k1
      by_cases k2 : (NN : Int) = cnt
      rotate_left
      · have k2' : ¬ (L.length : Int) = cnt := by rw [HOPS.out]; exact k2
        gi_wp2
        refine ⟨trivial, ?_⟩
        gi_wp2
        have hDB : DB = (0, [], 41) := by have h := HDX.out; rw [if_neg (fun h => k2 h.2.1)] at h; exact h.symm
        rw [hDB]
        exact dec_end w _ D (.slice none 0 0) [] _ 0 41 (HV5.out.set _) (World.ownsRow_nil _ _ _ _) (HBW5.out.setCell (p := ⟨w.heap.size, 0, none⟩) (Nat.le_refl _) _) ((Below.heap_setCell _ _ _ D (by have := HD.out; show D ≠ w.heap.size; omega)).trans HK5.out) (by have := HD.out; omega) rfl rfl rfl
      by_cases k3 : EE = (b.length : Int)
      rotate_left
      · have k2' : (L.length : Int) = cnt := by rw [HOPS.out]; exact k2
        gi_wp2
        refine ⟨trivial, ?_⟩
        gi_wp2
        have hDB : DB = (0, [], 41) := by have h := HDX.out; rw [if_neg (fun h => k3 h.2.2.1)] at h; exact h.symm
        rw [hDB]
        exact dec_end w _ D (.slice none 0 0) [] _ 0 41 (HV5.out.set _) (World.ownsRow_nil _ _ _ _) (HBW5.out.setCell (p := ⟨w.heap.size, 0, none⟩) (Nat.le_refl _) _) ((Below.heap_setCell _ _ _ D (by have := HD.out; show D ≠ w.heap.size; omega)).trans HK5.out) (by have := HD.out; omega) rfl rfl rfl
      have k2' : (L.length : Int) = cnt := by rw [HOPS.out]; exact k2
      have hfit := fit_eq seq NN hs8.1 (by have h1 := HN.out; have h2 := HLEN.out; omega)
      rw [k2] at hfit
      have HFIT := Aside0.mk hfit
      clear hfit
      gi_wp2
      refine ⟨trivial, ?_⟩
      (with_reducible refine (callsIn_wide.2 (batch_fit.calls _ _ _ _ HFIT.out)).mono ?_)
      rintro e w6 ⟨rfl, hd6⟩
      have hb6 := hd6.below
      have g6 : w5.grownBy w6 none := ⟨hb6.os, hb6.tape, hb6.output, hb6.size, fun k hk _ => hb6.block k hk⟩
      have V6 := HV5.out.kept g6 (by simp)
      have HK6 := Aside0.mk ((hb6.block D (blk_lt HK5.out)).trans HK5.out)
      have HBASE6 := Aside0.mk (row_own w5 w6 none HBASE5.out g6 (fun r e => by cases e))
      have HBW6 := Aside0.mk (HBW5.out.trans (hb6.mono (by have := blk_lt HV5.out; omega)))
      have y1 := V6.cell
      have y2 := V6.frozen
      have HV6 := Aside0.mk V6
      clear g6 V6 hb6 hd6
      have hcn : cnt.toNat = NN := by omega
      by_cases k4 : fitB seq NN = true
      rotate_left
      · rw [Bool.not_eq_true] at k4
        rw [k4]
        gi_wp2
        have hDB : DB = (0, [], 41) := by have h := HDX.out; rw [hcn, k4, if_neg (fun h => by simp at h)] at h; exact h.symm
        rw [hDB]
        exact dec_end w _ D (.slice none 0 0) [] _ 0 41 (HV6.out.set _) (World.ownsRow_nil _ _ _ _) (HBW6.out.setCell (p := ⟨w.heap.size, 0, none⟩) (Nat.le_refl _) _) ((Below.heap_setCell _ _ _ D (by have := HD.out; show D ≠ w.heap.size; omega)).trans HK6.out) (by have := HD.out; omega) rfl rfl rfl
      · rw [k4]
        gi_wp2
        have y3 := HV6.out.cell
        have z1 : (w6.drew).cell? ⟨w.heap.size, 0, none⟩ = some (.slice A1 L.length c1) := y3
        have z2 : (w6.drew).frozen? ⟨w.heap.size, 0, none⟩ = false := HV6.out.frozen
        gi_region
        all_goals gi_wp2
        have hDB : DB = (seq, L, 0) := by have h := HDX.out; rw [hcn, if_pos ⟨by trivial, k2, k3, k4⟩] at h; exact h.symm
        rw [hDB]
        have R7 := HBASE6.out.kept (grownBy_setCell' w6 w.heap.size (.slice A1 L.length c1)) (.inr (HV6.out.not_row (by decide) HBASE6.out).symm)
        have D7 : Below (w6.setCell ⟨w.heap.size, 0, none⟩ (.slice A1 L.length c1)).heap.size (w6.setCell ⟨w.heap.size, 0, none⟩ (.slice A1 L.length c1)) (w6.setCell ⟨w.heap.size, 0, none⟩ (.slice A1 L.length c1)).drew := (Below.refl _ _).drew
        have R8 := row_own _ _ none R7 ⟨D7.os, D7.tape, D7.output, D7.size, fun k hk _ => D7.block k hk⟩ (fun r e => by cases e)
        exact dec_end w _ D (.slice A1 L.length c1) L _ seq 0 (show Boxed (w6.setCell ⟨w.heap.size, 0, none⟩ (.slice A1 L.length c1)).drew _ _ _ from HV6.out.set _) (by rw [HOPS.out]; rw [HOPS.out] at R8; exact R8) ((HBW6.out.setCell (p := ⟨w.heap.size, 0, none⟩) (Nat.le_refl _) _).drew) (show (w6.setCell ⟨w.heap.size, 0, none⟩ (.slice A1 L.length c1)).heap[D]? = _ from (Below.heap_setCell _ _ _ D (by have := HD.out; show D ≠ w.heap.size; omega)).trans HK6.out) (by have := HD.out; omega) rfl rfl rfl
    case stop =>
      rintro D c pre W _ _ h _
      exact h.elim
theorem batch_Decode_calls (A : Option Addr) (c : Nat) (b : List Int) (w : World) (hr0 : Kd.C (Kd.int .u8) w A b.length b) (hc : b.length ≤ c) (hb : Bytes b) (hlen : b.length ≤ 1048576) :
    Calls Try.prog 33 #[.slice A b.length c] w fun e w' => ∃ v0_ : Value, e = .returned (.tuple #[.int .u64 (decB b).1, v0_, .int .i64 (decB b).2.2]) ∧ Kd.R k65 65 w' w.heap.size (fun _ => True) v0_ (decB b).2.1 ∧ Below w.heap.size w w' :=
  batch_Decode_callsW A c b w hr0 hc hb (by omega) (sane_gone b hb hlen)

end Go.Proofs.Ythkooncibfkepaa.G

/- Contracts typed by hand: a range over an iterator that is itself a range over another one: its contract is told which blocks a round leaves alone -/
namespace Go.Proofs.Ythkooncibfkepaa.G
open Go.RowKit Go.Proofs.YthkooncibfkepaaW.PrintWords Go.Proofs.YthkooncibfkepaaW.PrintLast Go.Proofs.YthkooncibfkepaaW.PrintMore
attribute [local go_sem] max2_int min2_int max_two min_two max_three min_three max_four min_four
set_option linter.unusedVariables false
set_option linter.unusedSimpArgs false

/-! a range over an iterator that is itself a range over another one: its contract is told which blocks a round leaves alone -/
open Go.Shelf
/-- what a piece of a walk leaves alone: each block that stood, but for those of a set -/
def Leave (S : Nat → Prop) (A B : World) : Prop := A.heap.size ≤ B.heap.size ∧ ∀ k, k < A.heap.size → ¬ S k → B.heap[k]? = A.heap[k]?
theorem Leave.refl (S : Nat → Prop) (A : World) : Leave S A A := ⟨Nat.le_refl _, fun _ _ _ => rfl⟩
theorem Leave.trans {S : Nat → Prop} {A B C : World} (h : Leave S A B) (k : Leave S B C) : Leave S A C := ⟨Nat.le_trans h.1 k.1, fun i hi hs => (k.2 i (Nat.lt_of_lt_of_le hi h.1) hs).trans (h.2 i hi hs)⟩
theorem Leave.wider {S T : Nat → Prop} {A B : World} (h : Leave S A B) (hst : ∀ k, k < A.heap.size → S k → T k) : Leave T A B := ⟨h.1, fun i hi hs => h.2 i hi (fun e => hs (hst i hi e))⟩
theorem Leave.below {S : Nat → Prop} {A B : World} (h : Below A.heap.size A B) : Leave S A B := ⟨h.size, fun i hi _ => h.block i hi⟩
theorem Leave.put {S : Nat → Prop} (A : World) {l : Nat} (o : Obj) (h : S l) : Leave S A (A.putObj l o) := ⟨(grownBy_putObj' A l o).size, fun _ _ hs => World.putObj_heap_other (fun e => hs (e ▸ h))⟩
theorem Leave.set {S : Nat → Prop} (A : World) {p : Addr} (v : Value) (h : S p.block) : Leave S A (A.setCell p v) := ⟨(KeepsOthers.setCell A p v).size, fun k _ hs => Below.heap_setCell A p v k (fun e => hs (e ▸ h))⟩
theorem Leave.alloc {S : Nat → Prop} (A : World) (o : Obj) : Leave S A (A.alloc o) := ⟨by rw [World.size_alloc]; omega, fun k hk _ => Below.heap_alloc A o k hk⟩
theorem Leave.keeps {S : Nat → Prop} {A B : World} (h : Leave S A B) (N : Nat) (hs : ∀ k, S k → k < N) : KeepsFrom N A B := ⟨h.1, fun k o hk ho _ => (h.2 k (Array.getElem?_eq_some_iff.1 ho).1 (fun e => by have := hs k e; omega)).trans ho⟩
theorem Leave.get {S : Nat → Prop} {A B : World} (h : Leave S A B) {k : Nat} {o : Obj} (ho : A.heap[k]? = some o) (hs : ¬ S k) : B.heap[k]? = some o := (h.2 k (Array.getElem?_eq_some_iff.1 ho).1 hs).trans ho

/-- an iterator's contract, where the rounds leave alone all but V and the loop's own record -/
def SeqRich {α : Type} (F : Fence) (n : Nat) (P : Program) (g : Nat) (lb : Array Value) (encs : α → Array Value) (V : Nat → Prop) (S Sp : List α → Prop) (w : World) : Prop :=
  ∀ (l : Nat) (J Jx : List α → World → Prop) (W : World), Below w.heap.size w W → w.heap.size ≤ l → l < W.heap.size → OwnFrom W.heap.size J → OwnFrom W.heap.size Jx →
    (∀ pre x W1, J pre W1 → W.heap.size ≤ W1.heap.size → Sp (pre ++ [x]) → YieldAt F (n - 1) P l (encs x) W1 fun e W' => Leave (fun k => V k ∨ k = l) W1 W' ∧
      ((e = .returned (.bool true) ∧ J (pre ++ [x]) W') ∨ (e = .returned (.bool false) ∧ Jx (pre ++ [x]) W'))) →
    J [] W →
    CallsIn F n P g (#[.func (.yield l) #[] #[]] ++ lb) W fun e W' => (∃ v, e = .returned v) ∧ ((∃ xs, S xs ∧ J xs W') ∨ (∃ pre, Sp pre ∧ Jx pre W'))
/-- how a round's body may be left -/
def leavePost {α : Type} (V : Nat → Prop) (I : List α → World → Prop) (Ix : Code → List α → World → Prop) (xs : List α) (W : World) : Exit → Act → World → Prop
  | .normal, _, W' => Leave V W W' ∧ I xs W'
  | .ret, _, W' => Leave V W W' ∧ Ix .ret xs W'
  | .exit id, _, W' => Leave V W W' ∧ Ix (.exit id) xs W'
  | .goto t, _, W' => Leave V W W' ∧ Ix (.goto t) xs W'
  | .panic _, _, _ => False
  | .outgrown, _, _ => False
/-- the loop's record -/
def recOf (fn : FuncId) (a : Act) (ps : Array Tmp) (assign body : Code) (D : Nat) (st : LoopState) (pe : Option Code) : Loop := { state := st, pending := pe, fn := fn, tmps := a.tmps, params := ps, assign := assign, body := body, defers := D }
/-- one round, seen from the record -/
theorem rich_round {α : Type} {F : Fence} {n : Nat} {P : Program} {ps : Array Tmp} {assign body : Code} {a : Act} {w : World} {fn : FuncId} (hfn : F.fn fn) {encs : α → Array Value} {V : Nat → Prop} (hV : ∀ k, V k → k < w.heap.size) (hps : ∀ x, (encs x).size = ps.size)
    {I : List α → World → Prop} {Ix : Code → List α → World → Prop} (hI : OwnFrom w.heap.size I) (hIx : ∀ c, OwnFrom w.heap.size (Ix c)) {Ax : α → Act → World → Prop} (hAx : ∀ x a', OwnFrom w.heap.size (fun (_ : Unit) W => Ax x a' W))
    {pre : List α} {x : α} {W : World} (hi : I pre W) (hl : W.heap[w.heap.size + 1]? = some (.loop (recOf fn a ps assign body w.heap.size .ready none))) (hk : W.heap[w.heap.size]? = some (.deferred (some [])))
    (hassign : ∀ (K : Act → World → Prop), (∀ a' W', Leave V W W' → I pre W' → Ax x a' W' → K a' W') →
      assign.wpIn (F.inRound (w.heap.size + 1)) n P (Exit.then K (fun _ _ _ => False)) { tmps := (ps.zip (encs x)).foldl (fun t (p, v) => t.setIfInBounds p v) a.tmps, defers := [] } W)
    (hbody : ∀ (a' : Act) (X : World), w.heap.size + 2 ≤ X.heap.size → (∃ r, X.heap[w.heap.size + 1]? = some (.loop r)) → I pre X → Ax x a' X → body.wpIn (F.inRound (w.heap.size + 1)) n P (leavePost V I Ix (pre ++ [x]) X) a' X) :
    YieldAt F n P (w.heap.size + 1) (encs x) W fun e W' => Leave (fun k => V k ∨ k = w.heap.size + 1) W W' ∧
      ((e = .returned (.bool true) ∧ (I (pre ++ [x]) W' ∧ W'.heap[w.heap.size + 1]? = some (.loop (recOf fn a ps assign body w.heap.size .ready none)) ∧ W'.heap[w.heap.size]? = some (.deferred (some [])))) ∨
       (e = .returned (.bool false) ∧ (∃ c, Ix c (pre ++ [x]) W' ∧ W'.heap[w.heap.size + 1]? = some (.loop (recOf fn a ps assign body w.heap.size .done (some c))) ∧ W'.heap[w.heap.size]? = some (.deferred (some []))))) := by
  have nL : ¬ V (w.heap.size + 1) := fun e => by have := hV _ e; omega
  have nD : ¬ V w.heap.size := fun e => by have := hV _ e; omega
  refine ⟨fn, _, assign, body, run_yield (args := encs x) hl (hps x), roundIn_of_wpIn hfn (hassign _ ?_)⟩
  intro a1 X hlv hi1 hx1
  have hlX := hlv.get hl nL
  have hkX := hlv.get hk nD
  have ltX : w.heap.size + 1 < X.heap.size := (Array.getElem?_eq_some_iff.1 hlX).1
  refine ⟨_, run_beginRound hlX rfl, ?_⟩
  obtain ⟨Y, hY⟩ : ∃ Y, X.putObj (w.heap.size + 1) (.loop { recOf fn a ps assign body w.heap.size .ready none with state := .busy }) = Y := ⟨_, rfl⟩
  have lY : Y.heap[w.heap.size + 1]? = some (.loop { recOf fn a ps assign body w.heap.size .ready none with state := .busy }) := by rw [← hY]; exact World.putObj_heap_same ltX
  have kY : Y.heap[w.heap.size]? = some (.deferred (some [])) := by rw [← hY]; exact (World.putObj_heap_other (by omega)).trans hkX
  have iY : I pre Y := by rw [← hY]; exact hI.putObj _ hi1 (by omega) hlX rfl
  have xY : Ax x a1 Y := by rw [← hY]; exact (hAx x a1).putObj (s := ()) _ hx1 (by omega) hlX rfl
  have lvY : Leave (fun k => V k ∨ k = w.heap.size + 1) W Y := (hlv.wider fun _ _ h => .inl h).trans (by rw [← hY]; exact Leave.put X _ (.inr rfl))
  rw [hY]
  refine wpIn_mono (hbody a1 Y (by have := (Array.getElem?_eq_some_iff.1 lY).1; omega) ⟨_, lY⟩ iY xY) ?_
  have fin : ∀ (jump : Option Code) (Z : World), Leave V Y Z → ∃ Z', (Instr.endRound (w.heap.size + 1) jump).run P Z = .ok (.bool jump.isNone) Z' ∧ Leave (fun k => V k ∨ k = w.heap.size + 1) W Z' ∧
      Z'.heap[w.heap.size + 1]? = some (.loop (recOf fn a ps assign body w.heap.size (if jump.isNone then .ready else .done) jump)) ∧ Z'.heap[w.heap.size]? = some (.deferred (some [])) ∧ (∀ xs, I xs Z → I xs Z') ∧ (∀ c xs, Ix c xs Z → Ix c xs Z') := by
    intro jump Z hz
    have lZ := hz.get lY nL
    refine ⟨_, run_endRound jump lZ, (lvY.trans (hz.wider fun _ _ h => .inl h)).trans (Leave.put Z _ (.inr rfl)), World.putObj_heap_same (Array.getElem?_eq_some_iff.1 lZ).1, (World.putObj_heap_other (by omega)).trans (hz.get kY nD), fun xs h => hI.putObj _ h (by omega) lZ rfl, fun c xs h => (hIx c).putObj _ h (by omega) lZ rfl⟩
  rintro e a3 Z hp
  cases e with
  | normal => obtain ⟨Z', h1, h2, h3, h4, h5, _⟩ := fin none Z hp.1; exact ⟨_, _, h1, h2, .inl ⟨rfl, h5 _ hp.2, h3, h4⟩⟩
  | ret => obtain ⟨Z', h1, h2, h3, h4, _, h6⟩ := fin (some .ret) Z hp.1; exact ⟨_, _, h1, h2, .inr ⟨rfl, .ret, h6 _ _ hp.2, h3, h4⟩⟩
  | exit id => obtain ⟨Z', h1, h2, h3, h4, _, h6⟩ := fin (some (.exit id)) Z hp.1; exact ⟨_, _, h1, h2, .inr ⟨rfl, .exit id, h6 _ _ hp.2, h3, h4⟩⟩
  | goto t => obtain ⟨Z', h1, h2, h3, h4, _, h6⟩ := fin (some (.goto t)) Z hp.1; exact ⟨_, _, h1, h2, .inr ⟨rfl, .goto t, h6 _ _ hp.2, h3, h4⟩⟩
  | panic ch => exact hp.elim
  | outgrown => exact hp.elim
/-- the statement `for .. := range seq`, over such a contract -/
theorem rich_range {α : Type} {F : Fence} {n : Nat} {P : Program} {g : Operand} {ps : Array Tmp} {assign body : Code} {Q : Exit → Act → World → Prop} {a : Act} {w : World}
    (hro : F.round = none) (h1 : 1 ≤ n) {gf : Nat} {lb : Array Value} (hg : a.eval g = .func (.func gf) #[] lb) (hFg : F.fn gf) (eg : ∀ args w, (callFunc gf args).run P w = .ok (.enter gf args) w)
    {encs : α → Array Value} {V : Nat → Prop} {S Sp : List α → Prop} {w0 : World} (hseq : SeqRich F (n - 1) P gf lb encs V S Sp w0) (hV : ∀ k, V k → k < w.heap.size) (hb0 : Below w0.heap.size w0 w) (hps : ∀ x, (encs x).size = ps.size)
    (I : List α → World → Prop) (Ix : Code → List α → World → Prop) (hI : OwnFrom w.heap.size I) (hIx : ∀ c, OwnFrom w.heap.size (Ix c)) (h0 : I [] w) (Ax : α → Act → World → Prop) (hAx : ∀ x a', OwnFrom w.heap.size (fun (_ : Unit) W => Ax x a' W))
    (hassign : ∀ (pre : List α) (x : α) (W : World) (K : Act → World → Prop), w.heap.size + 2 ≤ W.heap.size → I pre W → (∀ a' W', Leave V W W' → I pre W' → Ax x a' W' → K a' W') →
      assign.wpIn (F.inRound (w.heap.size + 1)) (n - 1 - 1) P (Exit.then K (fun _ _ _ => False)) { tmps := (ps.zip (encs x)).foldl (fun t (p, v) => t.setIfInBounds p v) a.tmps, defers := [] } W)
    (hbody : ∀ (pre : List α) (x : α) (a' : Act) (W : World), w.heap.size + 2 ≤ W.heap.size → (∃ r, W.heap[w.heap.size + 1]? = some (.loop r)) → I pre W → Ax x a' W → Sp (pre ++ [x]) → body.wpIn (F.inRound (w.heap.size + 1)) (n - 1 - 1) P (leavePost V I Ix (pre ++ [x]) W) a' W)
    (hdone : ∀ (xs : List α) (W : World), S xs → I xs W → W.heap[w.heap.size]? = some (.deferred (some [])) → Q .normal { a with defers := { target := .collected w.heap.size, args := #[] } :: a.defers } W)
    (hstop : ∀ (c : Code) (pre : List α) (W : World), Sp pre → Ix c pre W → W.heap[w.heap.size]? = some (.deferred (some [])) → c.wpIn F n P Q { a with defers := { target := .collected w.heap.size, args := #[] } :: a.defers } W) :
    (Code.rangeFunc g ps assign body).wpIn F n P Q a w := by
  refine wpIn_rangeFunc ?_
  intro fn hfn
  rw [hro]
  obtain ⟨W1, hW1⟩ : ∃ W1, (w.alloc (.deferred (some []))).alloc (.loop (recOf fn a ps assign body w.heap.size .ready none)) = W1 := ⟨_, rfl⟩
  have sz : W1.heap.size = w.heap.size + 2 := by rw [← hW1, World.size_alloc, World.size_alloc]
  have hL : W1.heap[w.heap.size + 1]? = some (.loop (recOf fn a ps assign body w.heap.size .ready none)) := by
    have := World.alloc_heap_new (w.alloc (.deferred (some []))) (.loop (recOf fn a ps assign body w.heap.size .ready none))
    rw [World.size_alloc, hW1] at this
    exact this
  have hK : W1.heap[w.heap.size]? = some (.deferred (some [])) := by
    rw [← hW1]
    exact (Below.heap_alloc _ _ _ (by rw [World.size_alloc]; omega)).trans (World.alloc_heap_new w _)
  have hI1 : I [] W1 := by rw [← hW1]; exact hI.alloc _ (hI.alloc _ h0)
  have hb1 : Below w0.heap.size w0 W1 := by
    rw [← hW1]
    exact hb0.trans ((below_alloc (below_alloc (Below.refl w.heap.size w) _) _).mono hb0.size)
  have turned : ∀ {X Y : World} {row : Option Nat} {k : Nat} {o : Obj}, k < W1.heap.size → X.heap[k]? = some o → X.grownBy Y row → (∀ r, row = some r → W1.heap.size ≤ r ∧ ∃ o : Obj, X.heap[r]? = some o ∧ o.isCells = false) → Y.heap[k]? = some o :=
    fun hk ho hgr hr => (hgr.block _ (Array.getElem?_eq_some_iff.1 ho).1 (fun e => by have := (hr _ e.symm).1; omega)).trans ho
  have wide : ∀ {X : World} {row : Option Nat}, (∀ r, row = some r → W1.heap.size ≤ r ∧ ∃ o : Obj, X.heap[r]? = some o ∧ o.isCells = false) → ∀ r, row = some r → w.heap.size ≤ r ∧ ∃ o : Obj, X.heap[r]? = some o ∧ o.isCells = false :=
    fun hr r e => ⟨by have := (hr r e).1; omega, (hr r e).2⟩
  refine ⟨w.heap.size + 1, [{ target := .collected w.heap.size, args := #[] }], W1, { target := .fn (.func gf) lb, args := #[.func (.yield (w.heap.size + 1)) #[] #[]] }, W1, gf, #[.func (.yield (w.heap.size + 1)) #[] #[]] ++ lb, W1, ?_, ?_, ?_, ?_, fun _ => h1, ?_⟩
  · rw [← hW1]; exact run_enterLoop_outer _ _ _ _ _
  · simp only [resolve, hg]; simp [go_sem]
  · intro f' hf'; simp [Target.leads] at hf'; subst hf'; exact hFg
  · simp [invoke, go_sem, eg]
  · refine (hseq (w.heap.size + 1)
      (fun pre W => I pre W ∧ W.heap[w.heap.size + 1]? = some (.loop (recOf fn a ps assign body w.heap.size .ready none)) ∧ W.heap[w.heap.size]? = some (.deferred (some [])))
      (fun pre W => ∃ c, Ix c pre W ∧ W.heap[w.heap.size + 1]? = some (.loop (recOf fn a ps assign body w.heap.size .done (some c))) ∧ W.heap[w.heap.size]? = some (.deferred (some [])))
      W1 hb1 (by have := hb0.size; omega) (by omega) ?_ ?_ ?_ ⟨hI1, hL, hK⟩).mono ?_
    · rintro s X Y row ⟨q1, q2, q3⟩ hgr hr
      exact ⟨hI s X Y row q1 hgr (wide hr), turned (by omega) q2 hgr hr, turned (by omega) q3 hgr hr⟩
    · rintro s X Y row ⟨c, q1, q2, q3⟩ hgr hr
      exact ⟨c, hIx c s X Y row q1 hgr (wide hr), turned (by omega) q2 hgr hr, turned (by omega) q3 hgr hr⟩
    · rintro pre x W ⟨hi, hl, hk⟩ hsz hlen
      exact rich_round hfn hV hps hI hIx hAx hi hl hk (fun K hK => hassign pre x W K (by omega) hi hK) (fun a' X hX hr h2 h3 => hbody pre x a' X hX hr h2 h3 hlen)
    · rintro e Z ⟨⟨v, rfl⟩, (⟨xs, hS, hi, hl, hk⟩ | ⟨pre, hSp, c, hi, hl, hk⟩)⟩
      · exact ⟨none, _, run_endLoop hl (by simp [recOf]), hdone xs _ hS (hI.putObj _ hi (by omega) hl rfl) ((World.putObj_heap_other (by omega)).trans hk)⟩
      · exact ⟨some c, _, run_endLoop hl (by simp [recOf]), hstop c pre _ hSp ((hIx c).putObj _ hi (by omega) hl rfl) ((World.putObj_heap_other (by omega)).trans hk)⟩
/-- where no depth is asked the figures are all one -/
theorem yield_any {F : Fence} (hd : F.depth = none) {m : Nat} (m' : Nat) {P : Program} {l : Nat} {args : Array Value} {W : World} {R : Ending → World → Prop} (h : YieldAt F m P l args W R) : YieldAt F m' P l args W R := by
  obtain ⟨fn, tmps, assign, body, hy, hF, hR⟩ := h
  exact ⟨fn, tmps, assign, body, hy, hF, fun c cs _ => hR c cs (fun d e => by rw [hd] at e; cases e)⟩
/-- a contract of the elder kind, where a round keeps what its Kp says, from this kind's rounds -/
theorem yield_round {F : Fence} {m : Nat} {P : Program} {l l' : Nat} {args : Array Value} {W : World} {R : Ending → World → Prop} (h : YieldAt F m P l args W R) : YieldAt (F.inRound l') m P l args W R := h

end Go.Proofs.Ythkooncibfkepaa.G

/- Contracts typed by hand: batch.Walk: an iterator over an iterator -/
namespace Go.Proofs.Ythkooncibfkepaa.G
open Go.RowKit Go.Proofs.YthkooncibfkepaaW.PrintWords Go.Proofs.YthkooncibfkepaaW.PrintLast Go.Proofs.YthkooncibfkepaaW.PrintMore
attribute [local go_sem] max2_int min2_int max_two min_two max_three min_three max_four min_four
set_option linter.unusedVariables false
set_option linter.unusedSimpArgs false

/-! batch.Walk: an iterator over an iterator -/
open Go.Shelf
attribute [local go_sem] Oper.semAt_some
set_option maxHeartbeats 4000000 in
set_option maxRecDepth 100000 in
theorem clone_calls (g : Nat) (c0 : Nat) (l0 : List Int) (w : World) (hr0 : Kd.C (Kd.int .u8) w (some ⟨g, 0, none⟩) l0.length l0) (hl : l0.length ≤ 140737488355000) :
    Calls Try.prog 68 #[.slice (some ⟨g, 0, none⟩) l0.length c0] w fun e w' => ∃ v, e = .returned v ∧ Kd.R (Kd.int .u8) 5 w' w.heap.size (fun _ => True) v l0 ∧ Below w.heap.size w w' := by
  have HR := Aside0.mk hr0
  have HL := Aside0.mk hl
  clear hr0 hl
  have hinfo : (Try.prog.info? 5).map (fun i => (i.zero, i.size, i.bytes)) = some (some (.int .u8 0), 1, 1) := by kernel_rfl
  have HI := Aside0.mk hinfo
  clear hinfo
  have hcmp : ∀ (n c : Nat) (X : World), (binOp .eql 33 (.slice (some ⟨g, 0, none⟩) n c) (.slice none 0 0)).run Try.prog X = .ok (.bool false) X := by
    intro n c X
    first | rfl | (simp [binOp, go_sem]; done) | (unfold binOp; simp [go_sem, Try.underlying33]; done)
  go_enter Try.func68, Try.ntmps68
  go_wp2_with (first | ((with_reducible refine gate_dst (N := 5) rfl ?_); refine Kd.R_lit (Kd.int .u8) _ 5 ?hg (N := 5) ?hd (xs := ([] : List Int)) (inner := []) (ok := fun _ => True) (okp := fun _ => True) ?hr ?hp (fun _ hk => hk) trivial (Below.refl _ _) (Nat.le_refl _) (by simp) ?_; (case hd => rfl); (case hg => rfl); (case hr => first | (go_simp; done) | (go_simp; rfl)); (case hp => exact (Reps.none _ _)); intro v102 w6 ho7 hb hg_ hnew_; clear hg_ hnew_; have HO1 := Aside0.mk ho7; have HB1 := Aside0.mk hb; clear hb ho7) | ((with_reducible refine gate_builtin (b := .append) (xs := #[.tmp 5, .tmp 6]) rfl ?_); at_builtin; refine Kd.R_append_rows (Kd.int .u8) (w0 := w) w.heap.size rfl (.tmp 5) (.tmp 6) 33 5 (.int .u8 0) 1 rfl Try.underlying33 HI.out rfl (by decide) (by omega) v102 [] l0 _ _ _ (fun _ => True) (fun _ => False) rfl rfl ?aO ?aR (fun _ _ h => h) (fun _ h => h.elim) (fun _ _ => trivial) ?aB ?aS ?aL ?_; (case aR => exact (Kd.C_below HR.out HB1.out)); (case aB => exact HB1.out); (case aO => exact HO1.out); (case aS => exact HB1.out.size); (case aL => have := HL.out; simp; omega); intro v105 w8 ho hb hg hat; have HO2 := Aside0.mk ho; have HB2 := Aside0.mk hb; clear ho hb hg hat))
  go_ret
  exact ⟨_, rfl, HO2.out, HB2.out⟩
set_option maxHeartbeats 4000000 in
theorem walk_calls (g : Nat) (c0 : Nat) (l0 : List Int) (w : World) (hr0 : Kd.C (Kd.int .u8) w (some ⟨g, 0, none⟩) l0.length l0) (hl : l0.length ≤ 140737488355000) :
    Calls Try.prog 41 #[.slice (some ⟨g, 0, none⟩) l0.length c0] w fun e w' => ∃ v, e = .returned (.func (.func 69) #[] #[.pointer (some ⟨w.heap.size, 0, none⟩)]) ∧
      w'.heap[w.heap.size]? = some (.cells #[v] 33 (0, 0)) ∧ Kd.R (Kd.int .u8) 5 w' w.heap.size (fun _ => True) v l0 ∧ Below w.heap.size w w' := by
  have HR := Aside0.mk hr0
  have HL := Aside0.mk hl
  have HB0 := Aside0.mk (below_alloc (Below.refl w.heap.size w) (.cells #[.slice (some ⟨g, 0, none⟩) l0.length c0] 33))
  have HX0 := Aside0.mk (World.alloc_heap_new w (.cells #[.slice (some ⟨g, 0, none⟩) l0.length c0] 33))
  have HSZ := Aside0.mk (World.size_alloc w (.cells #[.slice (some ⟨g, 0, none⟩) l0.length c0] 33))
  clear hr0 hl
  go_enter Try.func41, Try.ntmps41
  go_wp2_with fail
  (with_reducible refine (clone_calls g c0 l0 _ (Kd.C_below HR.out HB0.out) HL.out).mono ?_)
  rintro e w1 ⟨v, rfl, ho, hb⟩
  obtain ⟨Av, cv, rfl, _, _⟩ := Kd.R_reads ho
  have hx := (hb.block _ (blk_lt HX0.out)).trans HX0.out
  have x0 := blk_cell hx 0
  have y0 := blk_frozen hx 0
  have HX1 := Aside0.mk hx
  have HB1 := Aside0.mk (below_step HB0.out hb)
  have HO := Aside0.mk ho
  clear hb ho hx
  go_wp2
  go_ret
  have hne : some w.heap.size ≠ (Value.slice Av l0.length cv).ownBlock := Kd.R_ne HO.out HX1.out (by decide)
  refine ⟨_, rfl, blk_put (cs := #[.slice (some ⟨g, 0, none⟩) l0.length c0]) HX1.out 0 _ rfl, ?_, below_set HB1.out (Nat.le_refl _)⟩
  obtain ⟨h0, inner, ho, hr⟩ := Kd.R_lower HO.out (base' := w.heap.size) (by have := HSZ.out; omega)
  exact ⟨h0, inner, own_setCell ho hne _, hr.imp_ (fun _ _ hp => hp)⟩
theorem cell_of_heap {w W : World} {a : Addr} (h : W.heap[a.block]? = w.heap[a.block]?) : W.cell? a = w.cell? a := by unfold World.cell?; rw [h]
theorem C_same {w W : World} {A : Option Addr} {n : Nat} {xs : List Int} (h : Kd.C (Kd.int .u8) w A n xs) (hk : ∀ ad, A = some ad → W.heap[ad.block]? = w.heap[ad.block]?) : Kd.C (Kd.int .u8) W A n xs := by
  refine ⟨h.1, h.2.1, fun hn => ?_⟩
  obtain ⟨ad, hA, hc⟩ := h.2.2 hn
  refine ⟨ad, hA, fun i p hp => ?_⟩
  obtain ⟨cs, hl, hK, hcell⟩ := hc i p hp
  refine ⟨cs, hl, hK, fun j u hu => ?_⟩
  have := hcell j u hu
  rw [← this]
  exact cell_of_heap (by unfold Addr.add; split <;> exact hk ad hA)
set_option maxHeartbeats 8000000 in
set_option maxRecDepth 100000 in
theorem all1_pre (l : Nat) (n₀ Bn : Nat) (S : Nat → Prop) (A : Option Addr) (c : Nat) (b : List Int) (hb : Bytes b) (hlen : b.length ≤ 1099511627776) (hc : b.length ≤ c) (J Jx : List Gone → World → Prop) (W : World) (hn : n₀ ≤ W.heap.size)
    (hread : ∀ W', KpS n₀ S W W' → Kd.C (Kd.int .u8) W' A b.length b ∧ W'.cell? ⟨Bn, 0, none⟩ = some (.slice A b.length c))
    (hJ : ∀ pre W1 W2, J pre W1 → Below W1.heap.size W1 W2 → J pre W2)
    (hY : ∀ pre x W1, J pre W1 → pre ++ [x] <+: goneL b → YieldAt Fence.wide 1 Try.prog l (encG x) W1 fun e W' =>
      (e = .returned (.bool true) ∧ J (pre ++ [x]) W' ∧ KpS n₀ S W1 W') ∨ (e = .returned (.bool false) ∧ Jx (pre ++ [x]) W'))
    (h0 : J [] W) :
    CallsIn Fence.wide 2 Try.prog 76 #[.func (.yield l) #[] #[], .pointer (some ⟨Bn, 0, none⟩)] W fun e W' => (∃ v, e = .returned v) ∧
      ((∃ ys, ys = goneL b ∧ J ys W') ∨ (∃ pre, pre <+: goneL b ∧ Jx pre W')) := by
  have HREAD := Aside0.mk hread
  have HJ := Aside0.mk hJ
  have HY := Aside0.mk hY
  have H0 := Aside0.mk h0
  have HBY := Aside0.mk hb
  have HC := Aside0.mk hc
  have HN := Aside0.mk hn
  have HLEN := Aside0.mk hlen
  have HHD := Aside0.mk (head_eq 10 b hb hlen (Nat.le_refl _))
  have hcell := (hread W (KpS.refl _ _ _)).2
  have hs8 := seg8_small b hb
  have hs4 := seg4_small b hb
  have HL := Aside0.mk (rfl : goneL b = goneL b)
  clear hread hJ hY h0 hb hc hn hlen
  unfold headR at HHD
  by_cases h12 : b.length < 12
  · rw [if_pos h12] at HHD
    refine callsIn_of_wp Try.func76 rfl trivial ?_ rfl
    simp only [Try.ntmps76, List.size_toArray, List.length_cons, List.length_nil, Nat.reduceAdd, Nat.reduceSub, Array.replicate_succ, Array.replicate_zero, List.push_toArray, List.append_toArray, List.nil_append, List.cons_append]
    gi_wp2_with fail
    refine ⟨trivial, ?_⟩
    (with_reducible refine (callsIn_wide.2 (batch_Head.calls 10 A c b _ _ _ _ (HREAD.out _ (KpS.refl _ _ _)).1 HC.out HHD.out)).mono ?_)
    rintro e w1 ⟨rfl, hd⟩
    have HJ1 := Aside0.mk (HJ.out _ _ _ H0.out hd.below)
    clear hd
    gi_wp2
    refine bodyPost_ret (results_none rfl _ _ _) rfl ?_
    exact ⟨⟨_, rfl⟩, .inl ⟨[], by unfold goneL; rw [if_pos h12], HJ1.out⟩⟩
  · rw [if_neg h12] at HHD
    obtain ⟨cnt, hcnt⟩ := Int.eq_ofNat_of_zero_le hs4.1
    obtain ⟨L, hLL⟩ : ∃ L, goneL b = L := ⟨_, rfl⟩
    have HLL := Aside0.mk hLL
    obtain ⟨seq, hseq⟩ : ∃ seq, le (seg b 0 8) = seq := ⟨_, rfl⟩
    rw [hcnt, hseq] at HHD
    have hL0 : L = gos b seq cnt 0 12 := by rw [← hLL]; unfold goneL; rw [if_neg h12, hcnt, Int.toNat_natCast, hseq]
    have HL0 := Aside0.mk hL0
    have hc4 : cnt < 4294967296 := by omega
    have hseq0 : 0 ≤ seq ∧ seq < 18446744073709551616 := by omega
    rw [hLL]
    rw [hLL] at HY
    clear HL hLL hcnt hs4 hs8 hseq hL0 h12
    refine callsIn_of_wp Try.func76 rfl trivial ?_ rfl
    simp only [Try.ntmps76, List.size_toArray, List.length_cons, List.length_nil, Nat.reduceAdd, Nat.reduceSub, Array.replicate_succ, Array.replicate_zero, List.push_toArray, List.append_toArray, List.nil_append, List.cons_append]
    gi_wp2_with fail
    refine ⟨trivial, ?_⟩
    (with_reducible refine (callsIn_wide.2 (batch_Head.calls 10 A c b _ _ _ _ (HREAD.out _ (KpS.refl _ _ _)).1 HC.out HHD.out)).mono ?_)
    rintro e w1 ⟨rfl, hd⟩
    have HJ1 := Aside0.mk (HJ.out _ _ _ H0.out hd.below)
    have HK1 := Aside0.mk ((KpS.refl n₀ S W).below HN.out hd.below)
    clear hd hcell
    gi_wp2
    gi_loopw [6, 20] (fun v6 v20 wr => ∃ (pre : List Gone) (i : Nat) (p : Int), v6 = .int .i64 p ∧ v20 = .int .i64 (i : Int) ∧ i ≤ cnt ∧ 0 ≤ p ∧ Aside0 (L = pre ++ gos b seq (cnt - i) i p) ∧ Aside0 (J pre wr) ∧ Aside0 (KpS n₀ S W wr)) (fun _ v20 _ => cnt - (intOf v20).toNat)
    case atStart => exact ⟨[], 0, 12, rfl, rfl, by omega, by omega, HL0, HJ1, HK1⟩
    case round =>
      clear HL0 HJ1 HK1
      obtain ⟨pre, i, p, rfl, rfl, hi, hp, HL, HJS, HK⟩ := hrel
      have hcell := (HREAD.out wr HK.out).2
      have hnr : n₀ ≤ wr.heap.size := Nat.le_trans HN.out HK.out.1
      have HNR := Aside0.mk hnr
      clear hnr
      by_cases hlt : i < cnt
      · have b1 : decide ((i : Int) < (cnt : Int)) = true := decide_eq_true (by omega)
        have hL := HL.out
        rw [show cnt - i = (cnt - (i + 1)) + 1 by omega] at hL
        simp only [gos] at hL
        obtain ⟨R, hR⟩ : ∃ R, rdR b p = R := ⟨_, rfl⟩
        have HRD := Aside0.mk (batch_read_calls A c b p wr (HREAD.out wr HK.out).1 HC.out HBY.out HLEN.out hp)
        rw [hR] at hL HRD
        obtain ⟨x, q, ok⟩ := R
        simp only [] at hL
        clear HL
        gi_wp2_with fail
        refine ⟨trivial, ?_⟩
        (with_reducible refine (callsIn_wide.2 HRD.out).mono ?_)
        rintro e w2 ⟨rfl, hb2⟩
        have HJ2 := Aside0.mk (HJ.out _ _ _ HJS.out hb2)
        have HK2 := Aside0.mk (HK.out.below HNR.out hb2)
        clear hb2
        cases ok with
        | false =>
          rw [if_neg Bool.false_ne_true, List.append_nil] at hL
          have HL3 := Aside0.mk hL
          have HJ3 := Aside0.mk (HJ.out _ _ _ HJ2.out (below_alloc (Below.refl _ _) (.cells #[.int .i64 x.f0, .string x.f1, .string x.f2] 65)))
          clear hL
          gi_wp2
          refine ⟨fun _ h => (by cases h), ?_⟩
          gi_wp2
          refine bodyPost_ret (results_none rfl _ _ _) rfl ?_
          exact ⟨⟨_, rfl⟩, .inl ⟨pre, HL3.out.symm, HJ3.out⟩⟩
        | true =>
          rw [if_pos rfl] at hL
          have HL3 := Aside0.mk hL
          have hlp : pre ++ [(IntKind.u64.wrap (seq + (i : Int)), x, q)] <+: L := ⟨gos b seq (cnt - (i + 1)) (i + 1) q, by rw [hL]; simp⟩
          have HJ3 := Aside0.mk (HJ.out _ _ _ HJ2.out (below_alloc (Below.refl _ _) (.cells #[.int .i64 x.f0, .string x.f1, .string x.f2] 65)))
          have HK3 := Aside0.mk (HK2.out.below (Nat.le_trans HN.out HK2.out.1) (below_alloc (Below.refl _ _) (.cells #[.int .i64 x.f0, .string x.f1, .string x.f2] 65)))
          obtain ⟨fn, tmps, assign, body, hy, hR2⟩ := HY.out pre (IntKind.u64.wrap (seq + (i : Int)), x, q) _ HJ3.out hlp
          simp only [encG] at hy
          have eu : IntKind.u64.wrap (i : Int) = (i : Int) := by rw [Go.IntKind.wrap_u64]; omega
          have hq := (rdR_next b HBY.out HLEN.out p (by rw [hR])).1
          rw [hR] at hq
          have ew : wrap64 ((i : Int) + 1) = ((i + 1 : Nat) : Int) := by unfold wrap64; omega
          clear hL hlp
          gi_wp2
          refine hR2.mono ?_
          rintro e W3 (⟨rfl, hJ4, hk4⟩ | ⟨rfl, hJx4⟩)
          · have HJ4 := Aside0.mk hJ4
            have HK4 := Aside0.mk (HK3.out.trans hk4)
            have HL4 := Aside0.mk (show L = (pre ++ [(IntKind.u64.wrap (seq + (i : Int)), x, q)]) ++ gos b seq (cnt - (i + 1)) (i + 1) q by rw [HL3.out]; simp)
            clear hJ4 hk4 hR2
            gi_wp2
            go_roundw
            case rel => exact ⟨_, i + 1, q, rfl, by go_num, by omega, hq, HL4, HJ4, HK4⟩
            case measure => simp only [intOf]; omega
          · have HL4 := Aside0.mk (show (pre ++ [(IntKind.u64.wrap (seq + (i : Int)), x, q)]) <+: L by rw [HL3.out]; exact ⟨gos b seq (cnt - (i + 1)) (i + 1) q, by simp⟩)
            have HJX := Aside0.mk hJx4
            clear hJx4
            gi_wp2
            refine bodyPost_ret (results_none rfl _ _ _) rfl ?_
            exact ⟨⟨_, rfl⟩, .inr ⟨_, HL4.out, HJX.out⟩⟩
      · obtain rfl : i = cnt := by omega
        have b1 : decide ((i : Int) < (i : Int)) = false := decide_eq_false (by omega)
        have hL := HL.out
        rw [Nat.sub_self] at hL
        simp only [gos, List.append_nil] at hL
        have HL3 := Aside0.mk hL
        clear hL HL
        gi_wp2
        go_end0
        exact ⟨⟨_, rfl⟩, .inl ⟨pre, HL3.out.symm, HJS.out⟩⟩
theorem ownFrom_mono {β : Type} {B B' : Nat} {I : β → World → Prop} (h : OwnFrom B I) (hB : B ≤ B') : OwnFrom B' I := fun s X Y row hs hg hr => h s X Y row hs hg (fun r e => ⟨Nat.le_trans hB (hr r e).1, (hr r e).2⟩)
theorem all_rich (Bn : Nat) (A : Option Addr) (c : Nat) (b : List Int) (V : Nat → Prop) (w : World) (hb : Bytes b) (hlen : b.length ≤ 1099511627776) (hc : b.length ≤ c)
    (hC : Kd.C (Kd.int .u8) w A b.length b) (hbox : w.heap[Bn]? = some (.cells #[.slice A b.length c] 33 (0, 0))) (hA : ∀ ad, A = some ad → ad.block < w.heap.size ∧ ¬ V ad.block) (hVn : ¬ V Bn) :
    SeqRich Fence.wide 2 Try.prog 76 #[.pointer (some ⟨Bn, 0, none⟩)] encG V (fun ys => ys = goneL b) (fun pre => pre <+: goneL b) w := by
  intro l J Jx W hW hwl hlW hJ hJx hY h0
  have hBn := blk_lt hbox
  have hsW := hW.size
  refine (all1_pre l W.heap.size Bn (fun k => V k ∨ k = l) A c b hb hlen hc (fun pre X => J pre X ∧ W.heap.size ≤ X.heap.size) Jx W (Nat.le_refl _) ?_ ?_ ?_ ⟨h0, Nat.le_refl _⟩).mono ?_
  · intro W' hK
    refine ⟨C_same (Kd.C_below hC hW) fun ad e => hK.2 _ (by have := (hA ad e).1; omega) ?_, (show Boxed W' Bn 33 (.slice A b.length c) from (hK.2 _ (by omega) ?_).trans ((hW.block _ hBn).trans hbox)).cell⟩
    · rintro (h | h)
      · exact (hA ad e).2 h
      · have := (hA ad e).1; omega
    · rintro (h | h)
      · exact hVn h
      · omega
  · rintro pre W1 W2 ⟨hs, hz⟩ hb2
    exact ⟨hJ pre W1 W2 none hs (grown_of_below hb2 none) (fun r e => by cases e), Nat.le_trans hz hb2.size⟩
  · rintro pre x W1 ⟨hs, hz⟩ hp
    refine (hY pre x W1 hs hz hp).mono ?_
    rintro e W' ⟨hlv, (⟨rfl, hj⟩ | ⟨rfl, hj⟩)⟩
    · exact .inl ⟨rfl, ⟨hj, Nat.le_trans hz hlv.1⟩, hlv.1, fun k hk hn => hlv.2 k (by omega) hn⟩
    · exact .inr ⟨rfl, hj⟩
  · rintro e W' ⟨hv, (⟨ys, h1, h2⟩ | ⟨pre, h1, h2⟩)⟩
    · exact ⟨hv, .inl ⟨ys, h1, h2.1⟩⟩
    · exact ⟨hv, .inr ⟨pre, h1, h2⟩⟩
def encW (g : Gone) : Array Value := #[.int .u64 g.1, .agg #[.int .i64 g.2.1.f0, .string g.2.1.f1, .string g.2.1.f2]]
/-- a round's activation -/
def walkAx (l Bn : Nat) (A : Option Addr) (c : Nat) (b : List Int) (m : Nat) (g : Gone) (a' : Act) (X : World) : Prop :=
  ∃ Bx, m + 2 ≤ Bx ∧ X.heap[Bx]? = some (.cells (goneCells g) 100 (0, 0)) ∧ a' = { tmps := #[.func (.yield l) #[] #[], .pointer (some ⟨Bn, 0, none⟩), .pointer (some ⟨m, 0, none⟩), .pointer (some ⟨Bx, 0, none⟩), .slice A b.length c, .func (.func 76) #[] #[.pointer (some ⟨m + 1, 0, none⟩)], .agg (goneCells g), undef, undef, undef, undef, undef, undef, undef], defers := [] }
def WalkI (J : List Gone → World → Prop) (l m : Nat) (pre : List Gone) (X : World) : Prop := J pre X ∧ X.heap[m]? = some (.cells #[.func (.yield l) #[] #[]] 107 (0, 0)) ∧ m + 2 ≤ X.heap.size
set_option maxHeartbeats 8000000 in
set_option maxRecDepth 100000 in
theorem walk1_rich (Bn : Nat) (A : Option Addr) (c : Nat) (b : List Int) (V : Nat → Prop) (w : World) (hb : Bytes b) (hlen : b.length ≤ 1099511627776) (hc : b.length ≤ c)
    (hC : Kd.C (Kd.int .u8) w A b.length b) (hbox : w.heap[Bn]? = some (.cells #[.slice A b.length c] 33 (0, 0))) (hA : ∀ ad, A = some ad → ad.block < w.heap.size ∧ ¬ V ad.block) (hVn : ¬ V Bn) (hV : ∀ k, V k → k < w.heap.size) :
    SeqRich Fence.wide 3 Try.prog 69 #[.pointer (some ⟨Bn, 0, none⟩)] encW V (fun ys => ys = goneL b) (fun pre => pre <+: goneL b) w := by
  intro l J Jx W hW hwl hlW hJ hJx hY h0
  have hBn := blk_lt hbox
  have hsW := hW.size
  have HBY := Aside0.mk hb
  have HLEN := Aside0.mk hlen
  have HC := Aside0.mk hc
  have HJ := Aside0.mk hJ
  have HJX := Aside0.mk hJx
  have HY := Aside0.mk hY
  have HV := Aside0.mk hV
  obtain ⟨W1, hW1⟩ : ∃ W1, W.alloc (.cells #[.func (.yield l) #[] #[]] 107) = W1 := ⟨_, rfl⟩
  have z1 : W1.heap.size = W.heap.size + 1 := by rw [← hW1, World.size_alloc]
  have p1 : W1.heap[W.heap.size]? = some (.cells #[.func (.yield l) #[] #[]] 107 (0, 0)) := by rw [← hW1]; exact World.alloc_heap_new _ _
  have b1 : Below W.heap.size W W1 := by rw [← hW1]; exact below_alloc (Below.refl _ _) _
  have n1 : W1.heap[Bn]? = some (.cells #[.slice A b.length c] 33 (0, 0)) := (b1.block _ (by omega)).trans ((hW.block _ hBn).trans hbox)
  have cn1 := blk_cell n1 0
  rw [← hW1] at cn1
  obtain ⟨W2, hW2⟩ : ∃ W2, W1.alloc (.cells #[.slice A b.length c] 33) = W2 := ⟨_, rfl⟩
  have z2 : W2.heap.size = W.heap.size + 2 := by rw [← hW2, World.size_alloc, z1]
  have b2 : Below W1.heap.size W1 W2 := by rw [← hW2]; exact below_alloc (Below.refl _ _) _
  have p2 : W2.heap[W.heap.size]? = some (.cells #[.func (.yield l) #[] #[]] 107 (0, 0)) := (b2.block _ (by omega)).trans p1
  have q2 : W2.heap[W.heap.size + 1]? = some (.cells #[.slice A b.length c] 33 (0, 0)) := by
    have := World.alloc_heap_new W1 (.cells #[.slice A b.length c] 33)
    rw [z1, hW2] at this
    exact this
  have j2 : J [] W2 := by
    have h1 : J [] W1 := by rw [← hW1]; exact hJ.alloc _ h0
    rw [← hW2]; exact hJ.alloc _ h1
  have HJ2 := Aside0.mk j2
  have HP2 := Aside0.mk p2
  have HQ2 := Aside0.mk q2
  have HC2 := Aside0.mk (show Kd.C (Kd.int .u8) W2 A b.length b from Kd.C_below (Kd.C_below hC hW) (below_step b1 b2))
  have HA := Aside0.mk hA
  have HW1 := Aside0.mk hW1
  have HW2 := Aside0.mk hW2
  clear hb hlen hc hJ hJx hY h0 hV j2 p2 q2 p1 b2 b1 n1 hA hC hbox hW1 hW2
  refine callsIn_of_wp_marks Try.func69 rfl trivial ?_ rfl
  simp only [Try.ntmps69, List.size_toArray, List.length_cons, List.length_nil, Nat.reduceAdd, Nat.reduceSub, Array.replicate_succ, Array.replicate_zero, List.push_toArray, List.append_toArray, List.nil_append, List.cons_append]
  gi_wp2_with fail
  refine ⟨trivial, ?_⟩
  (with_reducible refine (callsIn_wide.2 (all_calls A b.length c _)).mono ?_)
  rintro e w2 ⟨rfl, rfl⟩
  rw [HW1.out, HW2.out, z1]
  gi_wp2_with fail
  refine rich_range (n := 3) (F := Fence.wide) rfl (by decide) (gf := 76) (lb := #[.pointer (some ⟨W.heap.size + 1, 0, none⟩)]) rfl trivial (enters_of Try.func76 (by kernel_rfl) rfl)
    (all_rich (W.heap.size + 1) A c b (fun k => V k ∨ k = l) W2 HBY.out HLEN.out HC.out HC2.out HQ2.out ?adr ?vn) ?vlt (Below.refl _ _) (fun _ => rfl)
    (WalkI J l W.heap.size) (fun cd pre X => cd = Code.ret ∧ Jx pre X) ?own ?ownx ?init (walkAx l Bn A c b W.heap.size) ?ax ?assign ?body ?done ?stop
  case adr =>
    intro ad e
    have h1 := (HA.out ad e).1
    refine ⟨by omega, ?_⟩
    rintro (h | h)
    · exact (HA.out ad e).2 h
    · omega
  case vn =>
    rintro (h | h)
    · have := HV.out _ h; omega
    · omega
  case vlt =>
    rintro k (h | h)
    · have := HV.out _ h; omega
    · omega
  case own =>
    rintro pre X Y row ⟨h1, h2, h3⟩ hg hr
    exact ⟨ownFrom_mono HJ.out (show W.heap.size ≤ W2.heap.size by omega) pre X Y row h1 hg hr, cells_own _ _ _ X Y row h2 hg (fun r e => (hr r e).2), Nat.le_trans h3 hg.size⟩
  case ownx =>
    rintro cd pre X Y row ⟨h1, h2⟩ hg hr
    exact ⟨h1, ownFrom_mono HJX.out (show W.heap.size ≤ W2.heap.size by omega) pre X Y row h2 hg hr⟩
  case init => exact ⟨HJ2.out, HP2.out, by omega⟩
  case ax =>
    rintro g a' _ X Y row ⟨Bx, h1, h2, h3⟩ hg hr
    exact ⟨Bx, h1, cells_own Bx _ _ X Y row h2 hg (fun r e => (hr r e).2), h3⟩
  case assign =>
    rintro pre g X K hX ⟨hj, hp, hs⟩ hK
    simp only [encG]
    gi_wp2
    exact hK _ _ (Leave.alloc X _) ⟨(ownFrom_mono HJ.out (Nat.le_refl _)).alloc _ hj, (Below.heap_alloc X _ _ (blk_lt hp)).trans hp, by rw [World.size_alloc]; omega⟩ ⟨X.heap.size, hs, World.alloc_heap_new X _, rfl⟩
  case body =>
    rintro pre g a' X hX hr ⟨hj, hp, hs⟩ ⟨Bx, hBx, hbx, rfl⟩ hlt
    have hp0 := blk_cell hp 0
    obtain ⟨fn, tmps, assign, body, hy, hR⟩ := yield_any (F := Fence.wide) rfl 0 (HY.out pre g X hj (by omega) hlt)
    have hR : RoundIn (Fence.wide.inRound (W.heap.size + 2 + 1)) 0 Try.prog l fn tmps assign body X _ := hR
    have HR := Aside0.mk hR
    have HGP := Aside0.mk (show X.heap[W.heap.size]? = some (.cells #[.func (.yield l) #[] #[]] 107 (0, 0)) from hp)
    clear hR hlt hr hX hp
    obtain ⟨g1, ⟨g2, g3, g4⟩, g5⟩ := g
    have hbx' : X.heap[Bx]? = some (.cells #[.int .u64 g1, .int .i64 g2, .string g3, .string g4, .int .i64 g5] 100 (0, 0)) := hbx
    have hc0 : X.cell? ⟨Bx, 0, none⟩ = some (.int .u64 g1) := by simp [World.cell?, hbx']
    have hc1 : X.cell? ⟨Bx, 1, none⟩ = some (.int .i64 g2) := by simp [World.cell?, hbx']
    have hc2 : X.cell? ⟨Bx, 2, none⟩ = some (.string g3) := by simp [World.cell?, hbx']
    have hc3 : X.cell? ⟨Bx, 3, none⟩ = some (.string g4) := by simp [World.cell?, hbx']
    simp only [encW] at hy
    clear hbx hbx'
    gi_wp2
    refine HR.out.mono ?_
    rintro e X3 ⟨hlv, (⟨rfl, hj3⟩ | ⟨rfl, hjx3⟩)⟩
    · have HI3 := Aside0.mk (show WalkI J l W.heap.size (pre ++ [(g1, ⟨g2, g3, g4⟩, g5)]) X3 from ⟨hj3, (hlv.get HGP.out (by
        rintro (h | h)
        · have := HV.out _ h; omega
        · omega)), Nat.le_trans hs hlv.1⟩)
      have HLV := Aside0.mk hlv
      clear hj3 hlv HR
      gi_wp2
      exact ⟨HLV.out, HI3.out⟩
    · have HLV := Aside0.mk hlv
      have HJX3 := Aside0.mk hjx3
      clear hjx3 hlv HR
      gi_wp2
      exact ⟨HLV.out, rfl, HJX3.out⟩
  case done =>
    rintro ys X rfl ⟨hj, hp, hs⟩ hK
    gi_wp2
    refine ⟨by simp, .inl ⟨_, _, rfl, run_takeDeferred hK, ?_⟩⟩
    exact ⟨_, results_none rfl _ _ _, ⟨_, rfl⟩, .inl ⟨_, rfl, HJ.out.putObj _ hj (by omega) hK rfl⟩⟩
  case stop =>
    rintro cd pre X hSp ⟨rfl, hjx⟩ hK
    gi_wp2
    refine ⟨by simp, .inl ⟨_, _, rfl, run_takeDeferred hK, ?_⟩⟩
    exact ⟨_, results_none rfl _ _ _, ⟨_, rfl⟩, .inr ⟨_, hSp, HJX.out.putObj _ hjx (by omega) hK rfl⟩⟩

end Go.Proofs.Ythkooncibfkepaa.G

/- Contracts typed by hand: a range over such an iterator, where a round may be left by a break only: both ways out go on alike -/
namespace Go.Proofs.Ythkooncibfkepaa.G
open Go.RowKit Go.Proofs.YthkooncibfkepaaW.PrintWords Go.Proofs.YthkooncibfkepaaW.PrintLast Go.Proofs.YthkooncibfkepaaW.PrintMore
attribute [local go_sem] max2_int min2_int max_two min_two max_three min_three max_four min_four
set_option linter.unusedVariables false
set_option linter.unusedSimpArgs false

/-! a range over such an iterator, where a round may be left by a break only: both ways out go on alike -/
open Go.Shelf
theorem rich_range2 {α : Type} {F : Fence} {n : Nat} {P : Program} {g : Operand} {ps : Array Tmp} {assign body : Code} {Q : Exit → Act → World → Prop} {a : Act} {w : World} (id : Nat)
    (hro : F.round = none) (h1 : 1 ≤ n) {gf : Nat} {lb : Array Value} (hg : a.eval g = .func (.func gf) #[] lb) (hFg : F.fn gf) (eg : ∀ args w, (callFunc gf args).run P w = .ok (.enter gf args) w)
    {encs : α → Array Value} {V : Nat → Prop} {S Sp : List α → Prop} {w0 : World} (hseq : SeqRich F (n - 1) P gf lb encs V S Sp w0) (hV : ∀ k, V k → k < w.heap.size) (hb0 : Below w0.heap.size w0 w) (hps : ∀ x, (encs x).size = ps.size)
    (I Ix : List α → World → Prop) (hI : OwnFrom w.heap.size I) (hIx : OwnFrom w.heap.size Ix) (h0 : I [] w) (Ax : α → Act → World → Prop) (hAx : ∀ x a', OwnFrom w.heap.size (fun (_ : Unit) W => Ax x a' W))
    (hassign : ∀ (pre : List α) (x : α) (W : World) (K : Act → World → Prop), w.heap.size + 2 ≤ W.heap.size → I pre W → (∀ a' W', Leave V W W' → I pre W' → Ax x a' W' → K a' W') →
      assign.wpIn (F.inRound (w.heap.size + 1)) (n - 1 - 1) P (Exit.then K (fun _ _ _ => False)) { tmps := (ps.zip (encs x)).foldl (fun t (p, v) => t.setIfInBounds p v) a.tmps, defers := [] } W)
    (hbody : ∀ (pre : List α) (x : α) (a' : Act) (W : World), w.heap.size + 2 ≤ W.heap.size → (∃ r, W.heap[w.heap.size + 1]? = some (.loop r)) → I pre W → Ax x a' W → Sp (pre ++ [x]) → body.wpIn (F.inRound (w.heap.size + 1)) (n - 1 - 1) P (leavePost V I (fun c xs W' => c = .exit id ∧ Ix xs W') (pre ++ [x]) W) a' W)
    (hend : ∀ (e : Exit) (W : World), (e = .normal ∨ e = .exit id) → ((∃ xs, S xs ∧ I xs W) ∨ (∃ pre, Sp pre ∧ Ix pre W)) → W.heap[w.heap.size]? = some (.deferred (some [])) → Q e { a with defers := { target := .collected w.heap.size, args := #[] } :: a.defers } W) :
    (Code.rangeFunc g ps assign body).wpIn F n P Q a w := by
  refine rich_range hro h1 hg hFg eg hseq hV hb0 hps I (fun c xs W' => c = .exit id ∧ Ix xs W') hI (fun c s X Y row hs hgr hr => ⟨hs.1, hIx s X Y row hs.2 hgr hr⟩) h0 Ax hAx hassign hbody ?_ ?_
  · intro xs W hS hi hk
    exact hend .normal W (.inl rfl) (.inl ⟨xs, hS, hi⟩) hk
  · rintro c pre W hSp ⟨rfl, hx⟩ hk
    exact wpIn_exit (hend (.exit id) W (.inr rfl) (.inr ⟨pre, hSp, hx⟩) hk)

end Go.Proofs.Ythkooncibfkepaa.G

/- Contracts typed by hand: a region that draws its order and only reads, in a round of a range over a function -/
namespace Go.Proofs.Ythkooncibfkepaa.G
open Go.RowKit Go.Proofs.YthkooncibfkepaaW.PrintWords Go.Proofs.YthkooncibfkepaaW.PrintLast Go.Proofs.YthkooncibfkepaaW.PrintMore
attribute [local go_sem] max2_int min2_int max_two min_two max_three min_three max_four min_four
set_option linter.unusedVariables false
set_option linter.unusedSimpArgs false

/-! a region that draws its order and only reads, in a round of a range over a function -/
theorem op_round {F : Fence} {n : Nat} {P : Program} {o : Oper} {a : Act} {w : World} {next : Act → World → Prop} {Q : Exit → Act → World → Prop} (r : Nat) (hro : F.round = none) (hd : ∀ c, o.op ≠ .defer c)
    (h : o.wpIn F n P a w next Q) : o.wpIn (F.inRound r) n P a w next Q := by
  have h2 := h.2
  rw [hro] at h2
  refine ⟨h.1, ?_⟩
  have e : o.semAt (F.inRound r).round a.eval = o.semAt none a.eval := by
    show o.semAt (some r) a.eval = o.semAt none a.eval
    rw [Oper.semAt_some r _ _ hd]
    unfold Oper.semAt
    cases ho : o.op <;> first | rfl | exact absurd ho (hd _)
  rw [e]
  exact h2
theorem any_round {F : Fence} {n : Nat} {P : Program} {md : Region.Mode} {ops : Array Oper} {Q : Exit → Act → World → Prop} (r : Nat) (hro : F.round = none) (hd : ∀ (i : Nat) (o : Oper), ops[i]? = some o → ∀ c, o.op ≠ .defer c) :
    ∀ (fuel : Nat) (listed : Array Bool) (a : Act) (w : World), wpAnyIn F n P md ops Q fuel listed a w → wpAnyIn (F.inRound r) n P md ops Q fuel listed a w
  | 0, _, _, _, h => h
  | fuel + 1, listed, a, w, h => by
    refine ⟨h.1, fun i hi => ?_⟩
    have hx := h.2 i hi
    unfold wpOpIn at hx ⊢
    cases ho : ops[i]? with
    | none =>
      rw [ho] at hx
      exact any_round r hro hd fuel _ a w hx
    | some o =>
      rw [ho] at hx
      dsimp only at hx ⊢
      by_cases hw : Region.wanted o (yielded ops a.tmps) = true
      · rw [if_pos hw] at hx ⊢
        exact Oper.wpIn_mono (fun a w q => any_round r hro hd fuel _ a w q) (op_round r hro (hd i o ho) hx)
      · rw [if_neg hw] at hx ⊢
        exact ⟨hx.1, any_round r hro hd fuel _ _ w hx.2⟩
def plainOps (l : List Oper) : Bool := l.all fun o => match o.op with | .defer _ => false | _ => true
theorem plainOps_spec {l : List Oper} (h : plainOps l = true) (i : Nat) (o : Oper) (ho : l.toArray[i]? = some o) : ∀ c, o.op ≠ .defer c := by
  intro c hc
  have hm : o ∈ l := by
    rw [List.getElem?_toArray] at ho
    exact List.mem_of_getElem? ho
  have := List.all_eq_true.1 h o hm
  rw [hc] at this
  simp at this
theorem region_quiet_round {F : Fence} {n : Nat} {P : Program} {r id : Nat} {Q : Exit → Act → World → Prop} {a : Act} {w : World} {l : List Oper} (hro : F.round = none) (hm : P.follows .mixedOrders = true) (hB : Region.lexB .any l.toArray = true) (hd : plainOps l = true)
    (h : wpQuietIn F n P l.toArray (fun w' => ∃ n, w' = w.drewN n) (fun a' => ∀ w', (∃ n, w' = w.drewN n) → Q .normal a' w') l a) : (Code.region id l.toArray true).wpIn (F.inRound r) n P Q a w := by
  simp only [Region.lexB, Bool.and_eq_true] at hB
  refine wpIn_region_any hm (any_round r hro (plainOps_spec hd) _ _ _ _ (wpAnyIn_of_quiet (C := fun w' => ∃ n, w' = w.drewN n) (Q := fun a' => ∀ w', (∃ n, w' = w.drewN n) → Q .normal a' w') hro (fun _ w' hw' h => h w' hw') _ _ _ _ ⟨1, rfl⟩ ?_))
  have := wpAnyQIn_lex (F := F) (n := n) (C := fun w' => ∃ n, w' = w.drewN n) (md := .any) hB.1 l 0 (Array.replicate l.toArray.size false) a (by simp) (by simpa using hB.2) h
  simpa using this

end Go.Proofs.Ythkooncibfkepaa.G

/- Contracts typed by hand: plain laws of reading a batch: what is put is read, what is read was put -/
namespace Go.Proofs.Ythkooncibfkepaa.G
open Go.RowKit Go.Proofs.YthkooncibfkepaaW.PrintWords Go.Proofs.YthkooncibfkepaaW.PrintLast Go.Proofs.YthkooncibfkepaaW.PrintMore
attribute [local go_sem] max2_int min2_int max_two min_two max_three min_three max_four min_four
set_option linter.unusedVariables false
set_option linter.unusedSimpArgs false

/-! plain laws of reading a batch: what is put is read, what is read was put -/
theorem Text_put (a c : List Int) (s : ByteArray) (hl : (a ++ encText s ++ c).length ≤ 140737488355328) : codec_Text.f (a ++ encText s ++ c) a.length = some (s, (a.length : Int) + ((encText s).length : Int), 0) := by
  have hlen : (a ++ encText s ++ c).length = a.length + (encText s).length + c.length := by rw [List.length_append, List.length_append]
  have hel : (encText s).length = (enc (s.size : Int)).length + s.size := by unfold encText; rw [List.length_append, bytesOf_length]
  have e : a ++ encText s ++ c = a ++ enc (s.size : Int) ++ (bytesOf s ++ c) := by unfold encText; simp
  have hv := Varint_put a (bytesOf s ++ c) (s.size : Int) (by omega) (by omega) (by rw [← e]; exact hl)
  rw [← e] at hv
  unfold codec_Text.f
  rw [hv]
  simp only [Option.bind_some, if_true]
  rw [if_pos (by omega), if_pos (by omega), if_pos (by omega), if_pos (by omega), if_neg (by omega)]
  have t1 : ((a.length : Int) + ((enc (s.size : Int)).length : Int) + (s.size : Int)).toNat = (a ++ encText s).length := by rw [List.length_append, hel]; omega
  have t2 : ((a.length : Int) + ((enc (s.size : Int)).length : Int)).toNat = (a ++ enc (s.size : Int)).length := by rw [List.length_append]; omega
  have t3 : a ++ encText s = (a ++ enc (s.size : Int)) ++ bytesOf s := by unfold encText; simp
  rw [t1, t2, List.take_left, t3, List.drop_left, strOfNums_bytesOf]
  congr 2
  rw [hel]
  congr 1
  omega
theorem bytesOf_nums (l : List Int) (hb : Bytes l) : bytesOf (strOfNums l) = l := by
  unfold bytesOf strOfNums
  simp only [List.map_map]
  conv => rhs; rw [← List.map_id l]
  apply List.map_congr_left
  intro x hx
  have := hb x hx
  simp
  omega
theorem nums_size (l : List Int) : (strOfNums l).size = l.length := by
  rw [← bytesOf_length]
  unfold bytesOf
  rw [List.length_map, strOfNums_data, List.length_map]
theorem Varint_at (l : List Int) (p w n : Int) (hb : Bytes l) (h : codec_Varint.f l p = some (w, n, 0)) : ∃ a c, l = a ++ enc w ++ c ∧ (a.length : Int) = p ∧ n = p + (enc w).length := by
  unfold codec_Varint.f at h
  by_cases h0 : p < 0
  · rw [if_pos h0] at h; simp at h
  · rw [if_neg h0] at h
    by_cases h1 : p > (l.length : Int)
    · rw [if_pos h1] at h; simp at h
    · rw [if_neg h1] at h
      by_cases hl : (l.length : Int) ≤ 281474976710656
      · rw [if_pos hl] at h
        simp only [Option.some.injEq] at h
        obtain ⟨u, _, _, hw, hn, ht, hx⟩ := go_was p (l.drop p.toNat) 0 0 w n (by omega) fits0 (hb.drop _) h
        rw [up_zero] at hw
        subst hw
        refine ⟨l.take p.toNat, (l.drop p.toNat).drop (enc w).length, ?_, ?_, ?_⟩
        · have e1 : enc w = (l.drop p.toNat).take (enc w).length := ht.symm
          conv => lhs; rw [← List.take_append_drop p.toNat l, ← List.take_append_drop (enc w).length (l.drop p.toNat), ← e1]
          rw [List.append_assoc]
        · rw [List.length_take]; omega
        · simp only [Nat.sub_zero] at hn
          unfold enc
          omega
      · rw [if_neg hl] at h; cases h
theorem Text_at (l : List Int) (p : Int) (s : ByteArray) (n : Int) (hb : Bytes l) (hl : l.length ≤ 1099511627776) (h : txt l p = (s, n, 0)) : ∃ a c, l = a ++ encText s ++ c ∧ (a.length : Int) = p ∧ n = p + (encText s).length := by
  have ht := (txt_eq l p hb hl).1
  rw [h] at ht
  obtain ⟨v, m, e, hv, hh⟩ := varint_some l p hb (by omega)
  unfold codec_Text.f at ht
  rw [hv, Option.bind_some] at ht
  rcases hh with ⟨rfl, v0, v1, p0, n0, n1⟩ | ⟨he, e0, e1, rfl, rfl⟩
  · obtain ⟨a, c, e1, e2, e3⟩ := Varint_at l p v m hb hv
    simp only [if_true] at ht
    rw [if_pos v0, if_pos (by omega), if_pos n1, if_pos (by omega)] at ht
    by_cases h2 : v > (l.length : Int) - m
    · rw [if_pos h2] at ht; simp at ht
    · rw [if_neg h2] at ht
      simp only [Option.some.injEq, Prod.mk.injEq, and_true] at ht
      have hlen : l.length = a.length + (enc v).length + c.length := by rw [e1, List.length_append, List.length_append]
      have hs : s = strOfNums (c.take v.toNat) := by
        rw [← ht.1]
        congr 1
        have q1 : (m + v).toNat = (a ++ enc v).length + v.toNat := by rw [List.length_append]; omega
        have q2 : m.toNat = (a ++ enc v).length := by rw [List.length_append]; omega
        rw [q1, q2, e1, List.take_length_add_append, List.drop_left]
      have hbc : Bytes c := fun x hx => hb x (by rw [e1]; exact List.mem_append_right _ hx)
      have hz : s.size = v.toNat := by rw [hs, nums_size, List.length_take]; omega
      have hv2 : ((s.size : Nat) : Int) = v := by omega
      have hbs : bytesOf s = c.take v.toNat := by rw [hs, bytesOf_nums _ (hbc.take _)]
      refine ⟨a, c.drop v.toNat, ?_, e2, ?_⟩
      · unfold encText
        rw [hv2, hbs, List.append_assoc, List.append_assoc, List.take_append_drop, ← List.append_assoc]
        exact e1
      · rw [← ht.2, e3]
        unfold encText
        rw [List.length_append, bytesOf_length, hv2]
        push_cast
        omega
  · simp only [] at ht
    rw [if_neg he] at ht
    simp only [Option.some.injEq, Prod.mk.injEq] at ht
    exact absurd ht.2.2 he
theorem byte_at (l a1 r : List Int) (p : Int) (e : l = a1 ++ r) (h : (a1.length : Int) = p + 1) (h0 : 0 ≤ p) : ∃ a, a1 = a ++ [rd l p] ∧ (a.length : Int) = p := by
  have hne : a1 ≠ [] := by intro h'; rw [h'] at h; simp at h; omega
  refine ⟨a1.dropLast, ?_, by rw [List.length_dropLast]; omega⟩
  have hp : p = ((a1.length - 1 : Nat) : Int) := by omega
  have hlt : a1.length - 1 < l.length := by rw [e, List.length_append]; omega
  rw [hp, rd_get l _ hlt]
  subst e
  rw [List.getElem_append_left (by omega)]
  conv => lhs; rw [← List.dropLast_concat_getLast hne]
  rw [List.getLast_eq_getElem]
theorem rdR_at (l : List Int) (p : Int) (hb : Bytes l) (hl : l.length ≤ 1099511627776) (h0 : 0 ≤ p) (h : (rdR l p).2.2 = true) : ∃ a c, l = a ++ encOp (rdR l p).1 ++ c ∧ (a.length : Int) = p ∧ (rdR l p).2.1 = p + (encOp (rdR l p).1).length ∧ mayB (rdR l p).1 = true := by
  have hbyte := fun hlt => rd_byte hb p h0 hlt
  by_cases c1 : p ≥ (l.length : Int)
  · unfold rdR at h; rw [if_pos c1] at h; cases h
  · by_cases c2 : (txt l (p + 1)).2.2 ≠ 0
    · unfold rdR at h; rw [if_neg c1, if_pos c2] at h; cases h
    · have c2' : (txt l (p + 1)).2.2 = 0 := by omega
      obtain ⟨s1, n1, z1, ht1⟩ : ∃ s n z, txt l (p + 1) = (s, n, z) := ⟨_, _, _, rfl⟩
      rw [ht1] at c2'
      obtain rfl : z1 = 0 := c2'
      obtain ⟨a1, r1, e1, l1, k1⟩ := Text_at l (p + 1) s1 n1 hb hl ht1
      obtain ⟨a, ea, la⟩ := byte_at l a1 (encText s1 ++ r1) p (by rw [e1, List.append_assoc]) l1 h0
      have hb0 := hbyte (by omega)
      by_cases c3 : rd l p = 0
      · have er : rdR l p = (⟨0, s1, ⟨#[]⟩⟩, n1, mayB ⟨0, s1, ⟨#[]⟩⟩) := by unfold rdR; rw [if_neg c1, if_neg c2, if_pos c3, ht1]
        rw [er] at h ⊢
        refine ⟨a, r1, ?_, la, ?_, h⟩
        · simp only [encOp]
          rw [if_pos trivial]
          rw [c3] at ea
          rw [e1, ea]
          simp
        · simp only [encOp]
          rw [if_pos trivial, List.length_cons, k1]
          push_cast
          omega
      · by_cases c4 : (txt l n1).2.2 ≠ 0
        · unfold rdR at h; rw [if_neg c1, if_neg c2, if_neg c3, ht1] at h; simp only [] at h; rw [if_pos c4] at h; cases h
        · have c4' : (txt l n1).2.2 = 0 := by omega
          obtain ⟨s2, n2, z2, ht2⟩ : ∃ s n z, txt l n1 = (s, n, z) := ⟨_, _, _, rfl⟩
          rw [ht2] at c4'
          obtain rfl : z2 = 0 := c4'
          obtain ⟨a2, r2, e2, l2, k2⟩ := Text_at l n1 s2 n2 hb hl ht2
          have er : rdR l p = (⟨rd l p, s1, s2⟩, n2, mayB ⟨rd l p, s1, s2⟩) := by unfold rdR; rw [if_neg c1, if_neg c2, if_neg c3, ht1]; simp only []; rw [if_neg c4, ht2]
          rw [er] at h ⊢
          have hpre : a1 ++ encText s1 = a2 := by
            have e3 : (a1 ++ encText s1) ++ r1 = a2 ++ (encText s2 ++ r2) := by rw [← e1, e2, List.append_assoc]
            exact (List.append_inj e3 (by rw [List.length_append]; omega)).1
          refine ⟨a, r2, ?_, la, ?_, h⟩
          · simp only [encOp]
            rw [if_neg c3, show rd l p % 256 = rd l p by omega]
            conv => lhs; rw [e2, ← hpre, ea]
            simp
          · simp only [encOp]
            rw [if_neg c3, List.length_append, List.length_cons, k2, k1]
            push_cast
            omega
theorem ba_len (s : ByteArray) : s.toList.length = s.size := by
  rw [Lib.toList_data, Array.length_toList]
  rfl
theorem may_kind (x : Op04) (h : mayB x = true) : 0 ≤ x.f0 ∧ x.f0 ≤ 2 ∧ (x.f0 = 0 → x.f2 = ⟨#[]⟩) := by
  unfold mayB at h
  split at h
  · cases h
  · split at h
    · cases h
    · split at h
      · rename_i h3
        refine ⟨by omega, by omega, fun _ => ?_⟩
        have : x.f2.toList = [] := by simpa using h
        have h4 : x.f2.size = 0 := by
          have e := ba_len x.f2
          rw [this] at e
          exact e.symm
        cases hx : x.f2 with
        | mk d =>
          rw [hx] at h4
          have : d = #[] := by simpa [ByteArray.size] using h4
          rw [this]
      · split at h
        · exact ⟨by omega, by omega, fun h' => by omega⟩
        · split at h
          · exact ⟨by omega, by omega, fun h' => by omega⟩
          · cases h
theorem txt_put (a c : List Int) (s : ByteArray) (l : List Int) (p : Int) (e : l = a ++ encText s ++ c) (hp : p = (a.length : Int)) (hl : l.length ≤ 1099511627776) : txt l p = (s, p + ((encText s).length : Int), 0) := by
  subst e hp
  unfold txt
  rw [Text_put a c s (by omega)]
  rfl
theorem rdR_put (x : Op04) (hm : mayB x = true) (a c l : List Int) (e : l = a ++ encOp x ++ c) (hl : l.length ≤ 1099511627776) : rdR l a.length = (x, (a.length : Int) + ((encOp x).length : Int), true) := by
  have hk := may_kind x hm
  have hlen : l.length = a.length + (encOp x).length + c.length := by rw [e, List.length_append, List.length_append]
  by_cases h0 : x.f0 = 0
  · have eo : encOp x = 0 :: encText x.f1 := by unfold encOp; rw [if_pos h0, h0]; rfl
    have e1 : l = (a ++ [0]) ++ encText x.f1 ++ c := by rw [e, eo]; simp
    have ht := txt_put (a ++ [0]) c x.f1 l ((a.length : Int) + 1) e1 (by simp) hl
    have hr : rd l (a.length : Int) = 0 := by rw [rd_get l a.length (by rw [hlen, eo, List.length_cons]; omega)]; simp [e1]
    have hx : (⟨0, x.f1, ⟨#[]⟩⟩ : Op04) = x := by
      have h2 := hk.2.2 h0
      cases x
      simp_all
    unfold rdR
    rw [if_neg (by rw [hlen, eo, List.length_cons]; omega), ht, if_neg (by simp), if_pos hr]
    simp only []
    rw [hx, hm, eo, List.length_cons]
    congr 2
    push_cast
    omega
  · have eo : encOp x = x.f0 :: (encText x.f1 ++ encText x.f2) := by unfold encOp; rw [if_neg h0, show x.f0 % 256 = x.f0 by omega]; rfl
    have e1 : l = (a ++ [x.f0]) ++ encText x.f1 ++ (encText x.f2 ++ c) := by rw [e, eo]; simp
    have e2 : l = (a ++ [x.f0] ++ encText x.f1) ++ encText x.f2 ++ c := by rw [e, eo]; simp
    have ht := txt_put (a ++ [x.f0]) _ x.f1 l ((a.length : Int) + 1) e1 (by simp) hl
    have ht2 := txt_put (a ++ [x.f0] ++ encText x.f1) _ x.f2 l ((a.length : Int) + 1 + ((encText x.f1).length : Int)) e2 (by simp only [List.length_append, List.length_cons, List.length_nil]; omega) hl
    have hr : rd l (a.length : Int) = x.f0 := by rw [rd_get l a.length (by rw [hlen, eo, List.length_cons]; omega)]; simp [e1]
    unfold rdR
    rw [if_neg (by rw [hlen, eo, List.length_cons]; omega), ht, if_neg (by simp), if_neg (by rw [hr]; exact h0)]
    simp only []
    rw [ht2, if_neg (by simp), hr]
    simp only []
    rw [show (⟨x.f0, x.f1, x.f2⟩ : Op04) = x from rfl, hm, eo, List.length_cons, List.length_append]
    congr 2
    push_cast
    omega
/-- the place behind the last of some -/
def endAt (p : Int) (gs : List Gone) : Int := match gs.getLast? with | some g => g.2.2 | none => p
theorem endAt_cons (p : Int) (g : Gone) (gs : List Gone) : endAt p (g :: gs) = endAt g.2.2 gs := by
  unfold endAt
  cases gs with
  | nil => rfl
  | cons h t =>
    rw [List.getLast?_cons_cons]
    have : (h :: t).getLast? ≠ none := by simp
    cases e : (h :: t).getLast? with
    | none => exact absurd e this
    | some y => rfl
theorem lastEnd_eq (gs : List Gone) : lastEnd gs = endAt 12 gs := rfl
theorem gos_at (l : List Int) (seq : Int) (hb : Bytes l) (hl : l.length ≤ 1099511627776) : ∀ (d i : Nat) (p : Int), 0 ≤ p → p ≤ l.length →
    ∃ a c, l = a ++ encOps (opsOf04 (gos l seq d i p)) ++ c ∧ (a.length : Int) = p ∧ endAt p (gos l seq d i p) = p + (encOps (opsOf04 (gos l seq d i p))).length ∧ ∀ x ∈ opsOf04 (gos l seq d i p), mayB x = true
  | 0, i, p, h0, hp => by
    refine ⟨l.take p.toNat, l.drop p.toNat, ?_, by rw [List.length_take]; omega, ?_, ?_⟩
    · simp [gos, opsOf04, encOps]
    · simp [gos, opsOf04, encOps, endAt]
    · intro x hx; simp [gos, opsOf04] at hx
  | d + 1, i, p, h0, hp => by
    unfold gos
    by_cases hr : (rdR l p).2.2 = true
    · rw [if_pos hr]
      have hn := rdR_next l hb hl p hr
      obtain ⟨a, c, e, la, ka, hm⟩ := rdR_at l p hb hl h0 hr
      obtain ⟨a2, c2, e2, la2, ka2, hm2⟩ := gos_at l seq hb hl d (i + 1) (rdR l p).2.1 hn.1 hn.2.2
      have ec : opsOf04 ((IntKind.u64.wrap (seq + (i : Int)), (rdR l p).1, (rdR l p).2.1) :: gos l seq d (i + 1) (rdR l p).2.1) = (rdR l p).1 :: opsOf04 (gos l seq d (i + 1) (rdR l p).2.1) := rfl
      rw [ec, endAt_cons]
      simp only [encOps]
      have hpre : a ++ encOp (rdR l p).1 = a2 := by
        have e3 : (a ++ encOp (rdR l p).1) ++ c = a2 ++ (encOps (opsOf04 (gos l seq d (i + 1) (rdR l p).2.1)) ++ c2) := by rw [← e, ← List.append_assoc]; exact e2
        exact (List.append_inj e3 (by rw [List.length_append]; omega)).1
      refine ⟨a, c2, ?_, la, ?_, ?_⟩
      · conv => lhs; rw [e2, ← hpre]
        simp
      · rw [ka2, ka, List.length_append]
        push_cast
        omega
      · intro x hx
        rcases List.mem_cons.1 hx with rfl | hx
        · exact hm
        · exact hm2 x hx
    · rw [if_neg hr]
      refine ⟨l.take p.toNat, l.drop p.toNat, ?_, by rw [List.length_take]; omega, ?_, ?_⟩
      · simp [opsOf04, encOps]
      · simp [opsOf04, encOps, endAt]
      · intro x hx; simp [opsOf04] at hx
theorem gos_put (l : List Int) (seq : Int) (hl : l.length ≤ 1099511627776) : ∀ (ops : List Op04) (i : Nat) (p : Int) (a c : List Int), l = a ++ encOps ops ++ c → p = (a.length : Int) → (∀ x ∈ ops, mayB x = true) →
    opsOf04 (gos l seq ops.length i p) = ops ∧ endAt p (gos l seq ops.length i p) = p + ((encOps ops).length : Int)
  | [], i, p, a, c, e, hp, hm => ⟨rfl, by simp [gos, endAt, encOps]⟩
  | x :: r, i, p, a, c, e, hp, hm => by
    have hr := rdR_put x (hm x List.mem_cons_self) a (encOps r ++ c) l (by rw [e]; simp [encOps]) hl
    have ih := gos_put l seq hl r (i + 1) (p + ((encOp x).length : Int)) (a ++ encOp x) c (by rw [e]; simp [encOps]) (by rw [List.length_append, hp]; push_cast; rfl) (fun y hy => hm y (List.mem_cons_of_mem _ hy))
    rw [← hp] at hr
    rw [List.length_cons]
    unfold gos
    rw [hr]
    simp only [if_true]
    rw [endAt_cons]
    refine ⟨?_, ?_⟩
    · show x :: opsOf04 (gos l seq r.length (i + 1) (p + ((encOp x).length : Int))) = x :: r
      rw [ih.1]
    · simp only []
      rw [ih.2]
      simp only [encOps]
      rw [List.length_append]
      push_cast
      omega
theorem badN_all : ∀ (l : List Op04) (i : Nat), (∀ x ∈ l, mayB x = true) → badN l i = none
  | [], _, _ => rfl
  | x :: r, i, h => by
    unfold badN
    rw [if_pos (h x List.mem_cons_self)]
    exact badN_all r (i + 1) (fun y hy => h y (List.mem_cons_of_mem _ hy))
theorem badN_none : ∀ (l : List Op04) (i : Nat), badN l i = none → ∀ x ∈ l, mayB x = true
  | [], _, _, x, hx => by cases hx
  | y :: r, i, h, x, hx => by
    unfold badN at h
    by_cases hy : mayB y = true
    · rw [if_pos hy] at h
      rcases List.mem_cons.1 hx with rfl | hx
      · exact hy
      · exact badN_none r (i + 1) h x hx
    · rw [if_neg hy] at h; cases h
theorem chk_ok {l : List Op04} (h : (chk l).2 = 0) : chk l = (0, 0) ∧ l.length ≤ 4096 ∧ (∀ x ∈ l, mayB x = true) ∧ 12 + totN l ≤ 1048576 := by
  unfold chk at h ⊢
  by_cases h1 : (l.length : Int) > 4096
  · rw [if_pos h1] at h; cases h
  · rw [if_neg h1] at h ⊢
    cases hb : badN l 0 with
    | some i => rw [hb] at h; simp at h
    | none =>
      rw [hb] at h
      simp only [] at h ⊢
      by_cases h2 : 12 + totN l > 1048576
      · rw [if_pos h2] at h; simp at h
      · rw [if_neg h2]
        exact ⟨rfl, by omega, badN_none l 0 hb, by omega⟩
theorem chk_of {l : List Op04} (h1 : l.length ≤ 4096) (hm : ∀ x ∈ l, mayB x = true) (h2 : 12 + totN l ≤ 1048576) : chk l = (0, 0) := by
  unfold chk
  rw [if_neg (by omega), badN_all l 0 hm]
  simp only []
  rw [if_neg (by omega)]
theorem fixF_le : ∀ (l : List Int), Bytes l → fixF l.length (le l) = l
  | [], _ => rfl
  | x :: r, h => by
    have hx := h x List.mem_cons_self
    have ih := fixF_le r (fun y hy => h y (List.mem_cons_of_mem _ hy))
    simp only [List.length_cons, fixF, le]
    rw [show (x + 256 * le r) % 256 = x by omega, show (x + 256 * le r) / 256 = le r by omega, ih]
theorem encR_ok {seq : Int} {l : List Op04} (h : (encR seq l).2 = 0) : (chk l).2 = 0 ∧ fitB seq l.length = true ∧ encR seq l = (encB seq l, 0) := by
  unfold encR at h ⊢
  by_cases h1 : (chk l).2 = 0
  · rw [if_pos h1] at h ⊢
    by_cases h2 : fitB seq l.length = true
    · rw [if_pos h2]; exact ⟨h1, h2, rfl⟩
    · rw [if_neg h2] at h; cases h
  · rw [if_neg h1] at h; exact absurd h h1
theorem decB_put (seq : Int) (l : List Op04) (h0 : 0 ≤ seq) (h1 : seq < 18446744073709551616) (h : (encR seq l).2 = 0) : decB (encB seq l) = (seq, l, 0) := by
  obtain ⟨hc, hf, _⟩ := encR_ok h
  obtain ⟨_, hn, hm, ht⟩ := chk_ok hc
  have hlen := encB_len seq l
  have hs8 : seg (encB seq l) 0 8 = fixF 8 seq := by
    have := seg_mid [] (fixF 8 seq) (fixF 4 (l.length : Int) ++ encOps l)
    rw [fixF_len] at this
    simpa [encB] using this
  have hs4 : seg (encB seq l) 8 4 = fixF 4 (l.length : Int) := by
    have := seg_mid (fixF 8 seq) (fixF 4 (l.length : Int)) (encOps l)
    rw [fixF_len, fixF_len] at this
    exact this
  have q8 : le (seg (encB seq l) 0 8) = seq := by rw [hs8, le_fixF 8 seq h0, show (256 : Int) ^ 8 = 18446744073709551616 by decide]; omega
  have q4 : le (seg (encB seq l) 8 4) = (l.length : Int) := by rw [hs4, le_fixF 4 _ (by omega), show (256 : Int) ^ 4 = 4294967296 by decide]; omega
  have hg := gos_put (encB seq l) seq (by omega) l 0 12 (fixF 8 seq ++ fixF 4 (l.length : Int)) [] (by simp [encB]) (by rw [List.length_append, fixF_len, fixF_len]; rfl) hm
  have hG : goneL (encB seq l) = gos (encB seq l) seq l.length 0 12 := by
    unfold goneL
    rw [if_neg (by omega), q8, q4]
    rfl
  unfold decB
  rw [if_neg (by omega), q8, q4, hG, lastEnd_eq, hg.1, hg.2, ← opsOf_len, hg.1]
  rw [if_pos ⟨hc, rfl, by rw [hlen, encOps_len]; push_cast; omega, hf⟩]
theorem decB_at (b : List Int) (hb : Bytes b) (hl : b.length ≤ 1048576) (h : (decB b).2.2 = 0) : (∀ x ∈ (decB b).2.1, mayB x = true) ∧ encR (decB b).1 (decB b).2.1 = (b, 0) := by
  unfold decB at h ⊢
  by_cases h12 : b.length < 12
  · rw [if_pos h12] at h; cases h
  · rw [if_neg h12] at h ⊢
    split at h
    · rename_i hc
      rw [if_pos hc]
      obtain ⟨c1, c2, c3, c4⟩ := hc
      have hG : goneL b = gos b (le (seg b 0 8)) (le (seg b 8 4)).toNat 0 12 := by unfold goneL; rw [if_neg h12]
      obtain ⟨a, c, e, la, ka, hm⟩ := gos_at b (le (seg b 0 8)) hb (by omega) (le (seg b 8 4)).toNat 0 12 (by omega) (by omega)
      rw [← hG] at e ka hm
      rw [lastEnd_eq, ka] at c3
      have hlen : b.length = a.length + (encOps (opsOf04 (goneL b))).length + c.length := by
        conv => lhs; rw [e]
        rw [List.length_append, List.length_append]
      have hc0 : c = [] := List.eq_nil_of_length_eq_zero (by omega)
      refine ⟨hm, ?_⟩
      simp only []
      unfold encR
      rw [if_pos c1, if_pos (by rw [opsOf_len, show (goneL b).length = (le (seg b 8 4)).toNat by omega]; exact c4)]
      congr 1
      unfold encB
      have f8 : fixF 8 (le (seg b 0 8)) = seg b 0 8 := by
        have := fixF_le (seg b 0 8) (seg_bytes hb _ _)
        rwa [seg_len b 0 8 (by omega)] at this
      have f4 : fixF 4 (le (seg b 8 4)) = seg b 8 4 := by
        have := fixF_le (seg b 8 4) (seg_bytes hb _ _)
        rwa [seg_len b 8 4 (by omega)] at this
      rw [opsOf_len, c2, f8, f4]
      have ha : a = b.take 12 := by
        conv => rhs; rw [e, hc0]
        rw [List.append_nil, List.take_left' (by omega)]
      have hab : seg b 0 8 ++ seg b 8 4 = b.take 12 := by
        unfold seg
        rw [List.drop_zero, ← List.take_add]
      rw [hab, ← ha]
      conv => rhs; rw [e, hc0]
      rw [List.append_nil]
    · cases h
theorem decB_bad (b : List Int) (h : (decB b).2.2 ≠ 0) : decB b = (0, [], 41) := by
  unfold decB at h ⊢
  by_cases h12 : b.length < 12
  · rw [if_pos h12]
  · rw [if_neg h12] at h ⊢
    split at h
    · exact absurd rfl h
    · rename_i hc
      rw [if_neg hc]

end Go.Proofs.Ythkooncibfkepaa.G

/- Contracts typed by hand: an argument that can be read is of its kind: from the form's reading to the words of the walks -/
namespace Go.Proofs.Ythkooncibfkepaa.G
open Go.RowKit Go.Proofs.YthkooncibfkepaaW.PrintWords Go.Proofs.YthkooncibfkepaaW.PrintLast Go.Proofs.YthkooncibfkepaaW.PrintMore
attribute [local go_sem] max2_int min2_int max_two min_two max_three min_three max_four min_four
set_option linter.unusedVariables false
set_option linter.unusedSimpArgs false

/-! an argument that can be read is of its kind: from the form's reading to the words of the walks -/
open Go.ChangeShapes Go.WideShapes Go.Deep
structure Opens (P : Program) (t : TypeId) {α : Type} (d : Kd α) (good : α → Prop) (bulk : α → Nat) : Prop where
  sz : P.cellsOf t = d.sz
  one : ∀ x, 1 ≤ bulk x
  go : ∀ {H : Type} {enc : TypeId × Value → H} {w : World} {base : Nat} {spare : Nat → Bool} {held : Bool} {fuel : Nat} {cs : List Value} {x : DataW H × List MemPlace}, DataW.trod enc P w base spare held fuel t cs = some x → ∃ a : α, d.K w a cs ∧ good a ∧ bulk a ≤ Rows.uptoBulk x.1
theorem opens_int {P : Program} {t : TypeId} {k : IntKind} (h : P.underlying t = some (.int k)) (hc : P.cellsOf t = 1) : Opens P t (Kd.int k) (fun n => (Lit.int k n).wf = true) (fun _ => 1) where
  sz := hc
  one := fun _ => Nat.le_refl 1
  go := by
    intro H enc w base spare held fuel cs x hx
    obtain ⟨n, rfl, rfl, hw⟩ := DataW.trod_int h hx
    exact ⟨n, rfl, hw, by simp [Rows.uptoBulk]⟩
theorem opens_bool {P : Program} {t : TypeId} (h : P.underlying t = some .bool) (hc : P.cellsOf t = 1) : Opens P t Kd.bool (fun _ => True) (fun _ => 1) where
  sz := hc
  one := fun _ => Nat.le_refl 1
  go := by
    intro H enc w base spare held fuel cs x hx
    obtain ⟨n, rfl, rfl⟩ := DataW.trod_bool h hx
    exact ⟨n, rfl, trivial, by simp [Rows.uptoBulk]⟩
theorem opens_string {P : Program} {t : TypeId} (h : P.underlying t = some .string) (hc : P.cellsOf t = 1) : Opens P t Kd.string (fun s => s.size ≤ maxLen) (fun s => s.size + 1) where
  sz := hc
  one := fun s => Nat.le_add_left 1 s.size
  go := by
    intro H enc w base spare held fuel cs x hx
    obtain ⟨s, rfl, rfl, hw⟩ := DataW.trod_string h hx
    exact ⟨s, rfl, hw, by simp [Rows.uptoBulk]⟩
def sumBulk {α : Type} (bulk : α → Nat) (l : List α) : Nat := (l.map bulk).sum
theorem sumBulk_nil {α : Type} (bulk : α → Nat) : sumBulk bulk [] = 0 := rfl
theorem sumBulk_cons {α : Type} (bulk : α → Nat) (x : α) (l : List α) : sumBulk bulk (x :: l) = bulk x + sumBulk bulk l := by simp [sumBulk]
theorem sumBulk_append {α : Type} (bulk : α → Nat) (l r : List α) : sumBulk bulk (l ++ r) = sumBulk bulk l + sumBulk bulk r := by simp [sumBulk, List.sum_append]
theorem sumBulk_mem {α : Type} (bulk : α → Nat) {x : α} {l : List α} (h : x ∈ l) : bulk x ≤ sumBulk bulk l := by
  induction l with
  | nil => cases h
  | cons y r ih =>
    rw [sumBulk_cons]
    rcases List.mem_cons.1 h with rfl | h
    · omega
    · have := ih h; omega
theorem sumBulk_len {α : Type} (bulk : α → Nat) (h1 : ∀ x, 1 ≤ bulk x) (l : List α) : l.length ≤ sumBulk bulk l := by
  induction l with
  | nil => exact Nat.zero_le _
  | cons y r ih => rw [sumBulk_cons, List.length_cons]; have := h1 y; omega
theorem list_of {α : Type} {Q : Nat → α → Prop} : ∀ (n : Nat), (∀ i, i < n → ∃ y, Q i y) → ∃ l : List α, l.length = n ∧ ∀ i y, l[i]? = some y → Q i y
  | 0, _ => ⟨[], rfl, fun i y h => by simp at h⟩
  | n + 1, h => by
    obtain ⟨l, hl, hq⟩ := list_of n (fun i hi => h i (by omega))
    obtain ⟨y, hy⟩ := h n (by omega)
    refine ⟨l ++ [y], by simp [hl], fun i z hz => ?_⟩
    rcases Nat.lt_trichotomy i n with hi | hi | hi
    · rw [List.getElem?_append_left (by omega)] at hz
      exact hq i z hz
    · subst hi
      rw [List.getElem?_append_right (by omega), hl] at hz
      simp at hz
      subst hz
      exact hy
    · rw [List.getElem?_eq_none (by simp [hl]; omega)] at hz
      cases hz
theorem bulkAll_append {H : Type} (l r : List (DataW H)) : Rows.uptoBulkAll (l ++ r) = Rows.uptoBulkAll l + Rows.uptoBulkAll r := by
  induction l with
  | nil => simp [Rows.uptoBulkAll]
  | cons x l ih => simp only [List.cons_append, Rows.uptoBulkAll, ih]; omega
theorem bulkAll_map {H : Type} {α : Type} (bulk : α → Nat) (D : Nat → DataW H) : ∀ (n : Nat) (l : List α), l.length = n → (∀ i y, l[i]? = some y → bulk y ≤ Rows.uptoBulk (D i)) → sumBulk bulk l ≤ Rows.uptoBulkAll ((List.range n).map D)
  | 0, l, hl, _ => by
    have : l = [] := List.length_eq_zero_iff.1 hl
    subst this
    simp [sumBulk]
  | n + 1, l, hl, h => by
    have hne : l ≠ [] := by
      intro e
      rw [e] at hl
      simp at hl
    obtain ⟨l0, y0, rfl⟩ : ∃ l0 y0, l = l0 ++ [y0] := ⟨l.dropLast, l.getLast hne, (List.dropLast_concat_getLast hne).symm⟩
    have hd : l0.length = n := by simpa using hl
    have ih := bulkAll_map bulk D n l0 hd (fun i y hy => h i y (by
      have hi : i < l0.length := (List.getElem?_eq_some_iff.1 hy).1
      rw [List.getElem?_append_left hi]
      exact hy))
    have hn := h n y0 (by
      rw [List.getElem?_append_right (by omega), hd]
      simp)
    rw [List.range_succ, List.map_append, bulkAll_append, sumBulk_append]
    simp only [List.map_cons, List.map_nil, sumBulk_cons, sumBulk_nil, Rows.uptoBulkAll]
    omega
theorem opens_slice {P : Program} {t e : TypeId} {α : Type} {d : Kd α} {good : α → Prop} {bulk : α → Nat} (h : P.underlying t = some (.slice e)) (hc : P.cellsOf t = 1) (he : Opens P e d good bulk) : Opens P t (Kd.slice e d) (fun l => ∀ x ∈ l, good x) (fun l => sumBulk bulk l + 1) where
  sz := hc
  one := fun l => Nat.le_add_left 1 _
  go := by
    intro H enc w base spare held fuel cs x hx
    rcases open_slice h hx with ⟨rfl, rfl⟩ | ⟨a, len, cap, m, n, D, Pl, rfl, hb, hl, hm, hmm, rfl, hi⟩
    · exact ⟨[], ⟨none, 0, rfl, Nat.le_refl _, Kd.C_nil _ _⟩, by simp, by simp [sumBulk, Rows.uptoBulk]⟩
    · have hlm : len ≤ m := by
        rw [hmm]
        split
        · exact hl
        · exact Nat.le_refl _
      obtain ⟨l, hll, hq⟩ := list_of (Q := fun i y => ∃ cs', w.cells? base (a.add (i * P.cellsOf e)) (P.cellsOf e) = some cs' ∧ d.K w y cs' ∧ good y ∧ bulk y ≤ Rows.uptoBulk (D i)) len (fun i hlt => by
        obtain ⟨cs', hcs, ht⟩ := hi i (by omega)
        obtain ⟨y, h1, h2, h3⟩ := he.go ht
        exact ⟨y, cs', hcs, h1, h2, h3⟩)
      subst hll
      refine ⟨l, ⟨some a, cap, rfl, hl, rfl, by unfold maxLen at hm; omega, fun _ => ⟨a, rfl, fun j p hj => ?_⟩⟩, fun x hx => ?_, ?_⟩
      · obtain ⟨cs', hcs, hk, _, _⟩ := hq j p hj
        obtain ⟨_, hlen, hat⟩ := World.cells?_some hcs
        rw [he.sz] at hlen hat
        refine ⟨cs', hlen, hk, fun i u hu => ?_⟩
        have hil : i < cs'.length := (List.getElem?_eq_some_iff.1 hu).1
        have := hat i (by omega)
        rw [Go.Deep.add_add] at this
        rw [this, hu]
      · obtain ⟨i, hi2⟩ := List.getElem?_of_mem hx
        obtain ⟨_, _, _, hg, _⟩ := hq i x hi2
        exact hg
      · have hbk := bulkAll_map bulk D l.length l rfl (fun i y hy => by
          obtain ⟨_, _, _, _, h5⟩ := hq i y hy
          exact h5)
        simp only [Rows.uptoBulk]
        omega
theorem opens_struct2 {P : Program} {t : TypeId} {f0 f1 : Field} {α β : Type} {d0 : Kd α} {d1 : Kd β} {g0 : α → Prop} {g1 : β → Prop} {b0 : α → Nat} {b1 : β → Nat} (ht : P.underlying t = some (.struct #[f0, f1])) (hc : P.cellsOf t = d0.sz + d1.sz)
    (ho0 : f0.offset = 0) (ho1 : f1.offset = d0.sz) (h0 : Opens P f0.type d0 g0 b0) (h1 : Opens P f1.type d1 g1 b1) : Opens P t (Kd.pair d0 d1) (fun x => g0 x.1 ∧ g1 x.2) (fun x => b0 x.1 + b1 x.2 + 1) where
  sz := hc
  one := fun l => Nat.le_add_left 1 _
  go := by
    intro H enc w base spare held fuel cs x hx
    obtain ⟨y0, y1, n, rfl, hl, e0, e1⟩ := trod_struct2 ht hx
    obtain ⟨a, k0, q0, p0⟩ := h0.go e0
    obtain ⟨b, k1, q1, p1⟩ := h1.go e1
    rw [ho0, h0.sz] at k0
    rw [ho1, h1.sz] at k1
    refine ⟨(a, b), ⟨_, _, ?_, k0, k1⟩, ⟨q0, q1⟩, ?_⟩
    · rw [List.drop_zero]
      have hd : (cs.drop d0.sz).take d1.sz = cs.drop d0.sz := List.take_of_length_le (by rw [List.length_drop]; omega)
      rw [hd, List.take_append_drop]
    · simp only [Rows.uptoBulk, Rows.uptoBulkAll]
      omega
theorem opens_struct3 {P : Program} {t : TypeId} {f0 f1 f2 : Field} {α β γ : Type} {d0 : Kd α} {d1 : Kd β} {d2 : Kd γ} {g0 : α → Prop} {g1 : β → Prop} {g2 : γ → Prop} {b0 : α → Nat} {b1 : β → Nat} {b2 : γ → Nat} (ht : P.underlying t = some (.struct #[f0, f1, f2])) (hc : P.cellsOf t = d0.sz + (d1.sz + d2.sz))
    (ho0 : f0.offset = 0) (ho1 : f1.offset = d0.sz) (ho2 : f2.offset = d0.sz + d1.sz) (h0 : Opens P f0.type d0 g0 b0) (h1 : Opens P f1.type d1 g1 b1) (h2 : Opens P f2.type d2 g2 b2) : Opens P t (Kd.pair d0 (Kd.pair d1 d2)) (fun x => g0 x.1 ∧ g1 x.2.1 ∧ g2 x.2.2) (fun x => b0 x.1 + b1 x.2.1 + b2 x.2.2 + 1) where
  sz := hc
  one := fun l => Nat.le_add_left 1 _
  go := by
    intro H enc w base spare held fuel cs x hx
    obtain ⟨y0, y1, y2, n, rfl, hl, e0, e1, e2⟩ := trod_struct3 ht hx
    obtain ⟨a, k0, q0, p0⟩ := h0.go e0
    obtain ⟨b, k1, q1, p1⟩ := h1.go e1
    obtain ⟨c, k2, q2, p2⟩ := h2.go e2
    rw [ho0, h0.sz] at k0
    rw [ho1, h1.sz] at k1
    rw [ho2, h2.sz] at k2
    refine ⟨(a, b, c), ⟨_, _, ?_, k0, _, _, rfl, k1, k2⟩, ⟨q0, q1, q2⟩, ?_⟩
    · rw [List.drop_zero]
      have hd : (cs.drop (d0.sz + d1.sz)).take d2.sz = cs.drop (d0.sz + d1.sz) := List.take_of_length_le (by rw [List.length_drop]; omega)
      rw [hd, ← List.drop_drop, List.take_append_drop, List.take_append_drop]
    · simp only [Rows.uptoBulk, Rows.uptoBulkAll]
      omega
theorem seg_join {α : Type} (cs : List α) (o n : Nat) : (cs.drop o).take n ++ cs.drop (o + n) = cs.drop o := by
  rw [← List.drop_drop, List.take_append_drop]
theorem opens_struct4 {P : Program} {t : TypeId} {f0 f1 f2 f3 : Field} {α0 α1 α2 α3 : Type} {d0 : Kd α0} {d1 : Kd α1} {d2 : Kd α2} {d3 : Kd α3} {g0 : α0 → Prop} {g1 : α1 → Prop} {g2 : α2 → Prop} {g3 : α3 → Prop} {b0 : α0 → Nat} {b1 : α1 → Nat} {b2 : α2 → Nat} {b3 : α3 → Nat} (ht : P.underlying t = some (.struct #[f0, f1, f2, f3])) (hc : P.cellsOf t = (d0.sz + (d1.sz + (d2.sz + d3.sz))))
    (ho0 : f0.offset = 0) (ho1 : f1.offset = d0.sz) (ho2 : f2.offset = d0.sz + d1.sz) (ho3 : f3.offset = d0.sz + d1.sz + d2.sz) (h0 : Opens P f0.type d0 g0 b0) (h1 : Opens P f1.type d1 g1 b1) (h2 : Opens P f2.type d2 g2 b2) (h3 : Opens P f3.type d3 g3 b3) : Opens P t (Kd.pair d0 (Kd.pair d1 (Kd.pair d2 d3))) (fun x => g0 x.1 ∧ g1 x.2.1 ∧ g2 x.2.2.1 ∧ g3 x.2.2.2) (fun x => b0 x.1 + b1 x.2.1 + b2 x.2.2.1 + b3 x.2.2.2 + 1) where
  sz := hc
  one := fun l => Nat.le_add_left 1 _
  go := by
    intro H enc w base spare held fuel cs x hx
    obtain ⟨xs, n, _, rfl, hl, hlen, hf⟩ := DataW.trod_struct ht hx
    match xs, hlen with
    | [y0, y1, y2, y3], _ =>
      obtain ⟨a0, k0, q0, p0⟩ := h0.go (show DataW.trod enc P w base spare held n f0.type ((cs.drop f0.offset).take (P.cellsOf f0.type)) = some y0 from by simpa using hf 0 f0 rfl)
      rw [ho0, h0.sz] at k0
      obtain ⟨a1, k1, q1, p1⟩ := h1.go (show DataW.trod enc P w base spare held n f1.type ((cs.drop f1.offset).take (P.cellsOf f1.type)) = some y1 from by simpa using hf 1 f1 rfl)
      rw [ho1, h1.sz] at k1
      obtain ⟨a2, k2, q2, p2⟩ := h2.go (show DataW.trod enc P w base spare held n f2.type ((cs.drop f2.offset).take (P.cellsOf f2.type)) = some y2 from by simpa using hf 2 f2 rfl)
      rw [ho2, h2.sz] at k2
      obtain ⟨a3, k3, q3, p3⟩ := h3.go (show DataW.trod enc P w base spare held n f3.type ((cs.drop f3.offset).take (P.cellsOf f3.type)) = some y3 from by simpa using hf 3 f3 rfl)
      rw [ho3, h3.sz] at k3
      refine ⟨(a0, a1, a2, a3), ⟨_, _, ?_, k0, _, _, rfl, k1, _, _, rfl, k2, k3⟩, ⟨q0, q1, q2, q3⟩, ?_⟩
      · rw [List.drop_zero]
        have hd : (cs.drop (d0.sz + d1.sz + d2.sz)).take d3.sz = cs.drop (d0.sz + d1.sz + d2.sz) := List.take_of_length_le (by rw [List.length_drop]; omega)
        rw [hd, seg_join, seg_join, List.take_append_drop]
      · simp only [List.map_cons, List.map_nil, Rows.uptoBulk, Rows.uptoBulkAll]
        omega
theorem opens_struct5 {P : Program} {t : TypeId} {f0 f1 f2 f3 f4 : Field} {α0 α1 α2 α3 α4 : Type} {d0 : Kd α0} {d1 : Kd α1} {d2 : Kd α2} {d3 : Kd α3} {d4 : Kd α4} {g0 : α0 → Prop} {g1 : α1 → Prop} {g2 : α2 → Prop} {g3 : α3 → Prop} {g4 : α4 → Prop} {b0 : α0 → Nat} {b1 : α1 → Nat} {b2 : α2 → Nat} {b3 : α3 → Nat} {b4 : α4 → Nat} (ht : P.underlying t = some (.struct #[f0, f1, f2, f3, f4])) (hc : P.cellsOf t = (d0.sz + (d1.sz + (d2.sz + (d3.sz + d4.sz)))))
    (ho0 : f0.offset = 0) (ho1 : f1.offset = d0.sz) (ho2 : f2.offset = d0.sz + d1.sz) (ho3 : f3.offset = d0.sz + d1.sz + d2.sz) (ho4 : f4.offset = d0.sz + d1.sz + d2.sz + d3.sz) (h0 : Opens P f0.type d0 g0 b0) (h1 : Opens P f1.type d1 g1 b1) (h2 : Opens P f2.type d2 g2 b2) (h3 : Opens P f3.type d3 g3 b3) (h4 : Opens P f4.type d4 g4 b4) : Opens P t (Kd.pair d0 (Kd.pair d1 (Kd.pair d2 (Kd.pair d3 d4)))) (fun x => g0 x.1 ∧ g1 x.2.1 ∧ g2 x.2.2.1 ∧ g3 x.2.2.2.1 ∧ g4 x.2.2.2.2) (fun x => b0 x.1 + b1 x.2.1 + b2 x.2.2.1 + b3 x.2.2.2.1 + b4 x.2.2.2.2 + 1) where
  sz := hc
  one := fun l => Nat.le_add_left 1 _
  go := by
    intro H enc w base spare held fuel cs x hx
    obtain ⟨xs, n, _, rfl, hl, hlen, hf⟩ := DataW.trod_struct ht hx
    match xs, hlen with
    | [y0, y1, y2, y3, y4], _ =>
      obtain ⟨a0, k0, q0, p0⟩ := h0.go (show DataW.trod enc P w base spare held n f0.type ((cs.drop f0.offset).take (P.cellsOf f0.type)) = some y0 from by simpa using hf 0 f0 rfl)
      rw [ho0, h0.sz] at k0
      obtain ⟨a1, k1, q1, p1⟩ := h1.go (show DataW.trod enc P w base spare held n f1.type ((cs.drop f1.offset).take (P.cellsOf f1.type)) = some y1 from by simpa using hf 1 f1 rfl)
      rw [ho1, h1.sz] at k1
      obtain ⟨a2, k2, q2, p2⟩ := h2.go (show DataW.trod enc P w base spare held n f2.type ((cs.drop f2.offset).take (P.cellsOf f2.type)) = some y2 from by simpa using hf 2 f2 rfl)
      rw [ho2, h2.sz] at k2
      obtain ⟨a3, k3, q3, p3⟩ := h3.go (show DataW.trod enc P w base spare held n f3.type ((cs.drop f3.offset).take (P.cellsOf f3.type)) = some y3 from by simpa using hf 3 f3 rfl)
      rw [ho3, h3.sz] at k3
      obtain ⟨a4, k4, q4, p4⟩ := h4.go (show DataW.trod enc P w base spare held n f4.type ((cs.drop f4.offset).take (P.cellsOf f4.type)) = some y4 from by simpa using hf 4 f4 rfl)
      rw [ho4, h4.sz] at k4
      refine ⟨(a0, a1, a2, a3, a4), ⟨_, _, ?_, k0, _, _, rfl, k1, _, _, rfl, k2, _, _, rfl, k3, k4⟩, ⟨q0, q1, q2, q3, q4⟩, ?_⟩
      · rw [List.drop_zero]
        have hd : (cs.drop (d0.sz + d1.sz + d2.sz + d3.sz)).take d4.sz = cs.drop (d0.sz + d1.sz + d2.sz + d3.sz) := List.take_of_length_le (by rw [List.length_drop]; omega)
        rw [hd, seg_join, seg_join, seg_join, List.take_append_drop]
      · simp only [List.map_cons, List.map_nil, Rows.uptoBulk, Rows.uptoBulkAll]
        omega
theorem opens_struct6 {P : Program} {t : TypeId} {f0 f1 f2 f3 f4 f5 : Field} {α0 α1 α2 α3 α4 α5 : Type} {d0 : Kd α0} {d1 : Kd α1} {d2 : Kd α2} {d3 : Kd α3} {d4 : Kd α4} {d5 : Kd α5} {g0 : α0 → Prop} {g1 : α1 → Prop} {g2 : α2 → Prop} {g3 : α3 → Prop} {g4 : α4 → Prop} {g5 : α5 → Prop} {b0 : α0 → Nat} {b1 : α1 → Nat} {b2 : α2 → Nat} {b3 : α3 → Nat} {b4 : α4 → Nat} {b5 : α5 → Nat} (ht : P.underlying t = some (.struct #[f0, f1, f2, f3, f4, f5])) (hc : P.cellsOf t = (d0.sz + (d1.sz + (d2.sz + (d3.sz + (d4.sz + d5.sz))))))
    (ho0 : f0.offset = 0) (ho1 : f1.offset = d0.sz) (ho2 : f2.offset = d0.sz + d1.sz) (ho3 : f3.offset = d0.sz + d1.sz + d2.sz) (ho4 : f4.offset = d0.sz + d1.sz + d2.sz + d3.sz) (ho5 : f5.offset = d0.sz + d1.sz + d2.sz + d3.sz + d4.sz) (h0 : Opens P f0.type d0 g0 b0) (h1 : Opens P f1.type d1 g1 b1) (h2 : Opens P f2.type d2 g2 b2) (h3 : Opens P f3.type d3 g3 b3) (h4 : Opens P f4.type d4 g4 b4) (h5 : Opens P f5.type d5 g5 b5) : Opens P t (Kd.pair d0 (Kd.pair d1 (Kd.pair d2 (Kd.pair d3 (Kd.pair d4 d5))))) (fun x => g0 x.1 ∧ g1 x.2.1 ∧ g2 x.2.2.1 ∧ g3 x.2.2.2.1 ∧ g4 x.2.2.2.2.1 ∧ g5 x.2.2.2.2.2) (fun x => b0 x.1 + b1 x.2.1 + b2 x.2.2.1 + b3 x.2.2.2.1 + b4 x.2.2.2.2.1 + b5 x.2.2.2.2.2 + 1) where
  sz := hc
  one := fun l => Nat.le_add_left 1 _
  go := by
    intro H enc w base spare held fuel cs x hx
    obtain ⟨xs, n, _, rfl, hl, hlen, hf⟩ := DataW.trod_struct ht hx
    match xs, hlen with
    | [y0, y1, y2, y3, y4, y5], _ =>
      obtain ⟨a0, k0, q0, p0⟩ := h0.go (show DataW.trod enc P w base spare held n f0.type ((cs.drop f0.offset).take (P.cellsOf f0.type)) = some y0 from by simpa using hf 0 f0 rfl)
      rw [ho0, h0.sz] at k0
      obtain ⟨a1, k1, q1, p1⟩ := h1.go (show DataW.trod enc P w base spare held n f1.type ((cs.drop f1.offset).take (P.cellsOf f1.type)) = some y1 from by simpa using hf 1 f1 rfl)
      rw [ho1, h1.sz] at k1
      obtain ⟨a2, k2, q2, p2⟩ := h2.go (show DataW.trod enc P w base spare held n f2.type ((cs.drop f2.offset).take (P.cellsOf f2.type)) = some y2 from by simpa using hf 2 f2 rfl)
      rw [ho2, h2.sz] at k2
      obtain ⟨a3, k3, q3, p3⟩ := h3.go (show DataW.trod enc P w base spare held n f3.type ((cs.drop f3.offset).take (P.cellsOf f3.type)) = some y3 from by simpa using hf 3 f3 rfl)
      rw [ho3, h3.sz] at k3
      obtain ⟨a4, k4, q4, p4⟩ := h4.go (show DataW.trod enc P w base spare held n f4.type ((cs.drop f4.offset).take (P.cellsOf f4.type)) = some y4 from by simpa using hf 4 f4 rfl)
      rw [ho4, h4.sz] at k4
      obtain ⟨a5, k5, q5, p5⟩ := h5.go (show DataW.trod enc P w base spare held n f5.type ((cs.drop f5.offset).take (P.cellsOf f5.type)) = some y5 from by simpa using hf 5 f5 rfl)
      rw [ho5, h5.sz] at k5
      refine ⟨(a0, a1, a2, a3, a4, a5), ⟨_, _, ?_, k0, _, _, rfl, k1, _, _, rfl, k2, _, _, rfl, k3, _, _, rfl, k4, k5⟩, ⟨q0, q1, q2, q3, q4, q5⟩, ?_⟩
      · rw [List.drop_zero]
        have hd : (cs.drop (d0.sz + d1.sz + d2.sz + d3.sz + d4.sz)).take d5.sz = cs.drop (d0.sz + d1.sz + d2.sz + d3.sz + d4.sz) := List.take_of_length_le (by rw [List.length_drop]; omega)
        rw [hd, seg_join, seg_join, seg_join, seg_join, List.take_append_drop]
      · simp only [List.map_cons, List.map_nil, Rows.uptoBulk, Rows.uptoBulkAll]
        omega
theorem opens_struct7 {P : Program} {t : TypeId} {f0 f1 f2 f3 f4 f5 f6 : Field} {α0 α1 α2 α3 α4 α5 α6 : Type} {d0 : Kd α0} {d1 : Kd α1} {d2 : Kd α2} {d3 : Kd α3} {d4 : Kd α4} {d5 : Kd α5} {d6 : Kd α6} {g0 : α0 → Prop} {g1 : α1 → Prop} {g2 : α2 → Prop} {g3 : α3 → Prop} {g4 : α4 → Prop} {g5 : α5 → Prop} {g6 : α6 → Prop} {b0 : α0 → Nat} {b1 : α1 → Nat} {b2 : α2 → Nat} {b3 : α3 → Nat} {b4 : α4 → Nat} {b5 : α5 → Nat} {b6 : α6 → Nat} (ht : P.underlying t = some (.struct #[f0, f1, f2, f3, f4, f5, f6])) (hc : P.cellsOf t = (d0.sz + (d1.sz + (d2.sz + (d3.sz + (d4.sz + (d5.sz + d6.sz)))))))
    (ho0 : f0.offset = 0) (ho1 : f1.offset = d0.sz) (ho2 : f2.offset = d0.sz + d1.sz) (ho3 : f3.offset = d0.sz + d1.sz + d2.sz) (ho4 : f4.offset = d0.sz + d1.sz + d2.sz + d3.sz) (ho5 : f5.offset = d0.sz + d1.sz + d2.sz + d3.sz + d4.sz) (ho6 : f6.offset = d0.sz + d1.sz + d2.sz + d3.sz + d4.sz + d5.sz) (h0 : Opens P f0.type d0 g0 b0) (h1 : Opens P f1.type d1 g1 b1) (h2 : Opens P f2.type d2 g2 b2) (h3 : Opens P f3.type d3 g3 b3) (h4 : Opens P f4.type d4 g4 b4) (h5 : Opens P f5.type d5 g5 b5) (h6 : Opens P f6.type d6 g6 b6) : Opens P t (Kd.pair d0 (Kd.pair d1 (Kd.pair d2 (Kd.pair d3 (Kd.pair d4 (Kd.pair d5 d6)))))) (fun x => g0 x.1 ∧ g1 x.2.1 ∧ g2 x.2.2.1 ∧ g3 x.2.2.2.1 ∧ g4 x.2.2.2.2.1 ∧ g5 x.2.2.2.2.2.1 ∧ g6 x.2.2.2.2.2.2) (fun x => b0 x.1 + b1 x.2.1 + b2 x.2.2.1 + b3 x.2.2.2.1 + b4 x.2.2.2.2.1 + b5 x.2.2.2.2.2.1 + b6 x.2.2.2.2.2.2 + 1) where
  sz := hc
  one := fun l => Nat.le_add_left 1 _
  go := by
    intro H enc w base spare held fuel cs x hx
    obtain ⟨xs, n, _, rfl, hl, hlen, hf⟩ := DataW.trod_struct ht hx
    match xs, hlen with
    | [y0, y1, y2, y3, y4, y5, y6], _ =>
      obtain ⟨a0, k0, q0, p0⟩ := h0.go (show DataW.trod enc P w base spare held n f0.type ((cs.drop f0.offset).take (P.cellsOf f0.type)) = some y0 from by simpa using hf 0 f0 rfl)
      rw [ho0, h0.sz] at k0
      obtain ⟨a1, k1, q1, p1⟩ := h1.go (show DataW.trod enc P w base spare held n f1.type ((cs.drop f1.offset).take (P.cellsOf f1.type)) = some y1 from by simpa using hf 1 f1 rfl)
      rw [ho1, h1.sz] at k1
      obtain ⟨a2, k2, q2, p2⟩ := h2.go (show DataW.trod enc P w base spare held n f2.type ((cs.drop f2.offset).take (P.cellsOf f2.type)) = some y2 from by simpa using hf 2 f2 rfl)
      rw [ho2, h2.sz] at k2
      obtain ⟨a3, k3, q3, p3⟩ := h3.go (show DataW.trod enc P w base spare held n f3.type ((cs.drop f3.offset).take (P.cellsOf f3.type)) = some y3 from by simpa using hf 3 f3 rfl)
      rw [ho3, h3.sz] at k3
      obtain ⟨a4, k4, q4, p4⟩ := h4.go (show DataW.trod enc P w base spare held n f4.type ((cs.drop f4.offset).take (P.cellsOf f4.type)) = some y4 from by simpa using hf 4 f4 rfl)
      rw [ho4, h4.sz] at k4
      obtain ⟨a5, k5, q5, p5⟩ := h5.go (show DataW.trod enc P w base spare held n f5.type ((cs.drop f5.offset).take (P.cellsOf f5.type)) = some y5 from by simpa using hf 5 f5 rfl)
      rw [ho5, h5.sz] at k5
      obtain ⟨a6, k6, q6, p6⟩ := h6.go (show DataW.trod enc P w base spare held n f6.type ((cs.drop f6.offset).take (P.cellsOf f6.type)) = some y6 from by simpa using hf 6 f6 rfl)
      rw [ho6, h6.sz] at k6
      refine ⟨(a0, a1, a2, a3, a4, a5, a6), ⟨_, _, ?_, k0, _, _, rfl, k1, _, _, rfl, k2, _, _, rfl, k3, _, _, rfl, k4, _, _, rfl, k5, k6⟩, ⟨q0, q1, q2, q3, q4, q5, q6⟩, ?_⟩
      · rw [List.drop_zero]
        have hd : (cs.drop (d0.sz + d1.sz + d2.sz + d3.sz + d4.sz + d5.sz)).take d6.sz = cs.drop (d0.sz + d1.sz + d2.sz + d3.sz + d4.sz + d5.sz) := List.take_of_length_le (by rw [List.length_drop]; omega)
        rw [hd, seg_join, seg_join, seg_join, seg_join, seg_join, List.take_append_drop]
      · simp only [List.map_cons, List.map_nil, Rows.uptoBulk, Rows.uptoBulkAll]
        omega
/-- a kind that is told by a structure of its own -/
theorem opens_iso {P : Program} {t : TypeId} {α β : Type} {d : Kd α} {good : α → Prop} {bulk : α → Nat} (h : Opens P t d good bulk) (f : β → α) (g : α → β) (hfg : ∀ a, f (g a) = a) : Opens P t (Kd.iso d f) (fun x => good (f x)) (fun x => bulk (f x)) where
  sz := h.sz
  one := fun x => h.one (f x)
  go := by
    intro H enc w base spare held fuel cs x hx
    obtain ⟨a, k, q, p⟩ := h.go hx
    refine ⟨g a, ?_, ?_, ?_⟩
    · show d.K w (f (g a)) cs
      rw [hfg]; exact k
    · rw [hfg]; exact q
    · rw [hfg]; exact p
/-- an argument's bulk, of the whole's -/
theorem bulk_bound {H : Type} {ds : List (DataW H)} (hk : Rows.uptoSmall H ds = true) : Rows.uptoBulkAll ds ≤ 1048576 := of_decide_eq_true hk

end Go.Proofs.Ythkooncibfkepaa.G

/- Printed by the session's program over the kit's print, out of the translation: functions as plain Lean functions, and the proofs that the calls come to them. -/
namespace Go.Proofs.Ythkooncibfkepaa.G
open Go.RowKit Go.Proofs.YthkooncibfkepaaW.PrintWords Go.Proofs.YthkooncibfkepaaW.PrintLast Go.Proofs.YthkooncibfkepaaW.PrintMore
attribute [local go_sem] max2_int min2_int max_two min_two max_three min_three max_four min_four   -- for this text's walks alone
set_option linter.unusedVariables false
set_option linter.unusedSimpArgs false

/-! ### morainelaw04_works: function 39 -/
def morainelaw04_works.f (k : Nat)  : Option (Bool) := (batch_Encode.f k 1 (([(⟨1, (⟨#[107]⟩ : ByteArray), (⟨#[118]⟩ : ByteArray)⟩ : S65), (⟨0, (⟨#[100]⟩ : ByteArray), (⟨#[]⟩ : ByteArray)⟩ : S65)] : List (S65)))).bind fun bt294 => (if bt294.2 = 0 then (some ((strOfNums bt294.1).toList == ([1, 0, 0, 0, 0, 0, 0, 0, 2, 0, 0, 0, 1, 1, 107, 1, 118, 0, 1, 100] : List UInt8))) else (some false))
theorem morainelaw04_works.mono : ∀ k, LeO (morainelaw04_works.f k ) (morainelaw04_works.f (k + 1) ) := by
  intro  k
  unfold morainelaw04_works.f
  repeat' first
      | (with_reducible exact batch_Encode.mono _ _ _)
      | (with_reducible exact LeO.refl _)
      | (with_reducible exact LeO.none _)
      | (with_reducible refine LeO.ite ?_ ?_)
      | (with_reducible refine LeO.bind ?_ (fun _ => ?_))
      | exact batch_Encode.mono _ _ _
      | exact LeO.none _
      | refine LeO.ite ?_ ?_
      | refine LeO.bind ?_ (fun _ => ?_)
set_option maxHeartbeats 8000000 in
set_option maxRecDepth 100000 in
theorem morainelaw04_works.calls (k : Nat)  (r : Bool) (w : World) (h : morainelaw04_works.f k  = some r) :
    Calls Try.prog 39 #[] w fun e w' => e = .returned (.bool r) ∧ Below w.heap.size w w' := by
  have hu65 := Try.underlying65
  have HB := Aside0.mk (Below.refl w.heap.size w)
  have H : ((batch_Encode.f k 1 (([(⟨1, (⟨#[107]⟩ : ByteArray), (⟨#[118]⟩ : ByteArray)⟩ : S65), (⟨0, (⟨#[100]⟩ : ByteArray), (⟨#[]⟩ : ByteArray)⟩ : S65)] : List (S65)))).bind fun bt294 => (if bt294.2 = 0 then (some ((strOfNums bt294.1).toList == ([1, 0, 0, 0, 0, 0, 0, 0, 2, 0, 0, 0, 1, 1, 107, 1, 118, 0, 1, 100] : List UInt8))) else (some false))) = some r := h
  clear h
  obtain ⟨y291, hy291⟩ : ∃ y_ : List (S65), y_ = (([(⟨1, (⟨#[107]⟩ : ByteArray), (⟨#[118]⟩ : ByteArray)⟩ : S65), (⟨0, (⟨#[100]⟩ : ByteArray), (⟨#[]⟩ : ByteArray)⟩ : S65)] : List (S65))) := ⟨_, rfl⟩
  replace H : ((batch_Encode.f k 1 y291).bind fun bt294 => (if bt294.2 = 0 then (some ((strOfNums bt294.1).toList == ([1, 0, 0, 0, 0, 0, 0, 0, 2, 0, 0, 0, 1, 1, 107, 1, 118, 0, 1, 100] : List UInt8))) else (some false))) = some r := by first | (rw [hy291]; with_reducible exact H) | (have H2_ := (Option.bind_some _ _).symm.trans H; rw [hy291]; with_reducible exact H2_) | (have H2_ := (Option.bind_some _ _).symm.trans H; with_reducible exact H2_) | with_reducible exact H | (rw [hy291]; exact H) | exact H
  have Ny291 := Aside0.mk hy291
  clear hy291
  replace H := Option.bind_eq_some_iff.mp H
  obtain ⟨⟨t294, t295⟩, A10, H⟩ := H
  replace H : (if t295 = 0 then (some ((strOfNums t294).toList == ([1, 0, 0, 0, 0, 0, 0, 0, 2, 0, 0, 0, 1, 1, 107, 1, 118, 0, 1, 100] : List UInt8))) else (some false)) = some r := H
  have A1 := Aside0.mk A10
  clear A10
  by_cases c2 : t295 = 0
  · rw [if_pos c2] at H
    have c2b0 : (t295 == 0) = true := beq_iff_eq.mpr c2
    have c2b1 : (t295 != 0) = false := bne_eq_false_iff_eq.mpr c2
    clear c2
    obtain rfl := Option.some.inj H
    go_enter Try.func39, Try.ntmps39
    go_wp2_with (first | ((with_reducible refine gate_dst (N := 6) rfl ?_); refine Kd.R_lit k65 _ 65 ?hg (N := 6) ?hd (xs := ([(⟨1, (⟨#[107]⟩ : ByteArray), (⟨#[118]⟩ : ByteArray)⟩ : S65), (⟨0, (⟨#[100]⟩ : ByteArray), (⟨#[]⟩ : ByteArray)⟩ : S65)] : List (S65))) (inner := [.int .i64 1, .string (⟨#[107]⟩ : ByteArray), .string (⟨#[118]⟩ : ByteArray), .int .i64 0, .string (⟨#[100]⟩ : ByteArray), .string (⟨#[]⟩ : ByteArray)]) (ok := fun _ => True) (okp := fun _ => True) ?hr ?hp (fun _ hk => hk) trivial (Below.refl _ _) (Nat.le_refl _) (by simp) ?_; (case hd => rfl); (case hg => rfl); (case hr => first | (go_simp; done) | (go_simp; rfl)); (case hp => exact (Reps.c3 (show Kd.M k65 _ _ _ (⟨1, (⟨#[107]⟩ : ByteArray), (⟨#[118]⟩ : ByteArray)⟩ : S65) [.int .i64 1, .string (⟨#[107]⟩ : ByteArray), .string (⟨#[118]⟩ : ByteArray)] from (k65_mkM _ _ _ (⟨1, (⟨#[107]⟩ : ByteArray), (⟨#[118]⟩ : ByteArray)⟩ : S65) )) (Reps.c3 (show Kd.M k65 _ _ _ (⟨0, (⟨#[100]⟩ : ByteArray), (⟨#[]⟩ : ByteArray)⟩ : S65) [.int .i64 0, .string (⟨#[100]⟩ : ByteArray), .string (⟨#[]⟩ : ByteArray)] from (k65_mkM _ _ _ (⟨0, (⟨#[100]⟩ : ByteArray), (⟨#[]⟩ : ByteArray)⟩ : S65) )) (Reps.none _ _)))); intro v292 w3 ho4 hb hg_ hnew_; clear hg_ hnew_; (first | rw [← Ny291.out] at ho4 | (simp only [Int.reduceToNat] at ho4; rw [← Ny291.out] at ho4)); have n0_ := Aside0.mk (Kd.R_lower ho4 (below_size (by repeat (first | (with_reducible first | exact HB.out | apply below_alloc | apply pw_below_drewN | apply below_drew1) | exact HB.out)))); have n1_ := Aside0.mk (below_step (by repeat (first | (with_reducible first | exact HB.out | apply below_alloc | apply pw_below_drewN | apply below_drew1) | exact HB.out)) hb); clear HB; have HO293 := n0_; have HB := n1_; clear n0_ n1_; clear hb ho4; obtain ⟨Ao5, co5, eo5⟩ := Kd.R_slice HO293.out; subst eo5) | ((with_reducible refine gate_callee (f := 21) rfl ?_); refine goesL_ (some 7) rfl rfl Try.func21 (by kernel_rfl) rfl #[.int .u64 1, .slice Ao5 y291.length co5] rfl (by (try simp only [List.map_toArray, List.map_cons, List.map_nil]); first | done | rfl | (simp only [List.length_drop, List.length_take]; rfl)) ?_; (with_reducible refine (batch_Encode.calls k 1 _ _ y291 t294 t295 _ ?side1 ?side2 A1.out).mono ?_); (case side1 => repeat (first | exact (Kd.R_reads' HO293.out).2.2 | (with_reducible refine Kd.C_alloc ?_ _) | (with_reducible refine Kd.C_drewN ?_ _) | (with_reducible refine Kd.C_drew ?_))); (case side2 => exact (Kd.R_reads' HO293.out).2.1); rintro e w6 ⟨v296, rfl, ho0, hb⟩; refine ⟨_, rfl, ?_⟩; have n0_ := Aside0.mk (Kd.R_below (by (with_reducible repeat (first | apply Kd.R_alloc | apply Kd.R_drewN | apply Kd.R_drew)); exact HO293.out) hb); have n1_ := Aside0.mk (Kd.R_lower ho0 (below_size (by repeat (first | (with_reducible first | exact HB.out | apply below_alloc | apply pw_below_drewN | apply below_drew1) | exact HB.out)))); have n2_ := Aside0.mk (below_step (by repeat (first | (with_reducible first | exact HB.out | apply below_alloc | apply pw_below_drewN | apply below_drew1) | exact HB.out)) hb); clear HO293; clear HB; have HO293 := n0_; have HO297 := n1_; have HB := n2_; clear n0_ n1_ n2_; (try clear hb); (try clear hb2); (try clear hk); (try clear hi); (try clear ho0); have hcv7 := own_string (P := Try.prog) Try.underlying33 Try.underlying5 Try.underlying9 (Kd.own_of_R HO297.out)))
    go_ret
    exact ⟨by first | rfl | (simp [errW_none, errW_some] <;> rfl) | (simp [*, errW_none, errW_some] <;> rfl), by repeat (first | (with_reducible first | exact HB.out | apply below_alloc | apply pw_below_drewN | apply below_drew1) | exact HB.out)⟩
  · rw [if_neg c2] at H
    have c2b0 : (t295 == 0) = false := beq_eq_false_iff_ne.mpr c2
    have c2b1 : (t295 != 0) = true := bne_iff_ne.mpr c2
    obtain rfl := Option.some.inj H
    go_enter Try.func39, Try.ntmps39
    go_wp2_with (first | ((with_reducible refine gate_dst (N := 6) rfl ?_); refine Kd.R_lit k65 _ 65 ?hg (N := 6) ?hd (xs := ([(⟨1, (⟨#[107]⟩ : ByteArray), (⟨#[118]⟩ : ByteArray)⟩ : S65), (⟨0, (⟨#[100]⟩ : ByteArray), (⟨#[]⟩ : ByteArray)⟩ : S65)] : List (S65))) (inner := [.int .i64 1, .string (⟨#[107]⟩ : ByteArray), .string (⟨#[118]⟩ : ByteArray), .int .i64 0, .string (⟨#[100]⟩ : ByteArray), .string (⟨#[]⟩ : ByteArray)]) (ok := fun _ => True) (okp := fun _ => True) ?hr ?hp (fun _ hk => hk) trivial (Below.refl _ _) (Nat.le_refl _) (by simp) ?_; (case hd => rfl); (case hg => rfl); (case hr => first | (go_simp; done) | (go_simp; rfl)); (case hp => exact (Reps.c3 (show Kd.M k65 _ _ _ (⟨1, (⟨#[107]⟩ : ByteArray), (⟨#[118]⟩ : ByteArray)⟩ : S65) [.int .i64 1, .string (⟨#[107]⟩ : ByteArray), .string (⟨#[118]⟩ : ByteArray)] from (k65_mkM _ _ _ (⟨1, (⟨#[107]⟩ : ByteArray), (⟨#[118]⟩ : ByteArray)⟩ : S65) )) (Reps.c3 (show Kd.M k65 _ _ _ (⟨0, (⟨#[100]⟩ : ByteArray), (⟨#[]⟩ : ByteArray)⟩ : S65) [.int .i64 0, .string (⟨#[100]⟩ : ByteArray), .string (⟨#[]⟩ : ByteArray)] from (k65_mkM _ _ _ (⟨0, (⟨#[100]⟩ : ByteArray), (⟨#[]⟩ : ByteArray)⟩ : S65) )) (Reps.none _ _)))); intro v292 w8 ho9 hb hg_ hnew_; clear hg_ hnew_; (first | rw [← Ny291.out] at ho9 | (simp only [Int.reduceToNat] at ho9; rw [← Ny291.out] at ho9)); have n0_ := Aside0.mk (Kd.R_lower ho9 (below_size (by repeat (first | (with_reducible first | exact HB.out | apply below_alloc | apply pw_below_drewN | apply below_drew1) | exact HB.out)))); have n1_ := Aside0.mk (below_step (by repeat (first | (with_reducible first | exact HB.out | apply below_alloc | apply pw_below_drewN | apply below_drew1) | exact HB.out)) hb); clear HB; have HO293 := n0_; have HB := n1_; clear n0_ n1_; clear hb ho9; obtain ⟨Ao10, co10, eo10⟩ := Kd.R_slice HO293.out; subst eo10) | ((with_reducible refine gate_callee (f := 21) rfl ?_); refine goesL_ (some 7) rfl rfl Try.func21 (by kernel_rfl) rfl #[.int .u64 1, .slice Ao10 y291.length co10] rfl (by (try simp only [List.map_toArray, List.map_cons, List.map_nil]); first | done | rfl | (simp only [List.length_drop, List.length_take]; rfl)) ?_; (with_reducible refine (batch_Encode.calls k 1 _ _ y291 t294 t295 _ ?side1 ?side2 A1.out).mono ?_); (case side1 => repeat (first | exact (Kd.R_reads' HO293.out).2.2 | (with_reducible refine Kd.C_alloc ?_ _) | (with_reducible refine Kd.C_drewN ?_ _) | (with_reducible refine Kd.C_drew ?_))); (case side2 => exact (Kd.R_reads' HO293.out).2.1); rintro e w11 ⟨v296, rfl, ho0, hb⟩; refine ⟨_, rfl, ?_⟩; have n0_ := Aside0.mk (Kd.R_below (by (with_reducible repeat (first | apply Kd.R_alloc | apply Kd.R_drewN | apply Kd.R_drew)); exact HO293.out) hb); have n1_ := Aside0.mk (Kd.R_lower ho0 (below_size (by repeat (first | (with_reducible first | exact HB.out | apply below_alloc | apply pw_below_drewN | apply below_drew1) | exact HB.out)))); have n2_ := Aside0.mk (below_step (by repeat (first | (with_reducible first | exact HB.out | apply below_alloc | apply pw_below_drewN | apply below_drew1) | exact HB.out)) hb); clear HO293; clear HB; have HO293 := n0_; have HO297 := n1_; have HB := n2_; clear n0_ n1_ n2_; (try clear hb); (try clear hb2); (try clear hk); (try clear hi); (try clear ho0)))
    go_ret
    exact ⟨by first | rfl | (simp [errW_none, errW_some] <;> rfl) | (simp [*, errW_none, errW_some] <;> rfl), by repeat (first | (with_reducible first | exact HB.out | apply below_alloc | apply pw_below_drewN | apply below_drew1) | exact HB.out)⟩

end Go.Proofs.Ythkooncibfkepaa.G

/- Contracts typed by hand: small lemmas of the laws over batch.Walk -/
namespace Go.Proofs.Ythkooncibfkepaa.G
open Go.RowKit Go.Proofs.YthkooncibfkepaaW.PrintWords Go.Proofs.YthkooncibfkepaaW.PrintLast Go.Proofs.YthkooncibfkepaaW.PrintMore
attribute [local go_sem] max2_int min2_int max_two min_two max_three min_three max_four min_four
set_option linter.unusedVariables false
set_option linter.unusedSimpArgs false

/-! small lemmas of the laws over batch.Walk -/
open Go.Shelf
theorem gos_num (l : List Int) (seq : Int) : ∀ (d i : Nat) (p : Int) (j : Nat) (g : Gone), (gos l seq d i p)[j]? = some g → g.1 = IntKind.u64.wrap (seq + ((i + j : Nat) : Int))
  | 0, _, _, j, g, h => by simp [gos] at h
  | d + 1, i, p, j, g, h => by
    unfold gos at h
    split at h
    · cases j with
      | zero =>
        simp only [List.getElem?_cons_zero, Option.some.injEq] at h
        subst h
        simp
      | succ j =>
        rw [List.getElem?_cons_succ] at h
        have := gos_num l seq d (i + 1) _ j g h
        rw [this]
        congr 2
        push_cast
        omega
    · simp at h
theorem goneL_num (l : List Int) (j : Nat) (g : Gone) (h : (goneL l)[j]? = some g) : g.1 = IntKind.u64.wrap ((if l.length < 12 then 0 else le (seg l 0 8)) + (j : Int)) := by
  unfold goneL at h
  split at h
  · simp at h
  · rename_i h12
    rw [if_neg h12]
    have := gos_num l _ _ 0 12 j g h
    rw [this]
    simp
theorem pre_at {pre G : List Gone} {x : Gone} (h : pre ++ [x] <+: G) : G[pre.length]? = some x ∧ pre.length < G.length := by
  obtain ⟨t, ht⟩ := h
  rw [← ht]
  simp
theorem R_rowat {w : World} {base e : Nat} {ok : Nat → Prop} {A : Option Addr} {n c : Nat} {xs : List Int} (h : Kd.R (Kd.int .u8) e w base ok (.slice A n c) xs) : ∀ ad, A = some ad → ad.block < w.heap.size ∧ (Value.slice A n c).ownBlock = some ad.block := by
  intro ad hA
  obtain ⟨h0, inner, ho, _⟩ := h
  rcases ho.2 with ⟨e, _⟩ | ⟨g, cap, cur, e, _, hg, _⟩
  · injection e with e1 _ _
    rw [e1] at hA; cases hA
  · injection e with e1 _ _
    rw [e1] at hA
    obtain rfl : (⟨g, 0, none⟩ : Addr) = ad := Option.some.inj hA
    exact ⟨blk_lt hg, by rw [e1]; rfl⟩
theorem both_ways {K : Act → World → Prop} {Q' : Exit → Act → World → Prop} {e : Exit} {a : Act} {X : World} {id : Nat} (he : e = .normal ∨ e = .exit id) (h : K a X) : Exit.inBlock id (Exit.then K Q') e a X := by
  rcases he with rfl | rfl
  · exact h
  · show (if id = id then K a X else Q' (.exit id) a X)
    rw [if_pos rfl]
    exact h
theorem results_c {P : Program} {fn : Func} {p : Tmp} {ty : TypeId} (h : fn.results = #[.cell p ty]) (tmps : Array Value) (w : World) (g : Nat) (x : Value)
    (hp : tmps.getD p undef = .pointer (some ⟨g, 0, none⟩)) (hg : w.cell? ⟨g, 0, none⟩ = some x) (hu : P.underlying ty = some .bool) :
    (results fn tmps).run P w = .ok x w := by
  have hp' : tmps[p]?.getD undef = .pointer (some ⟨g, 0, none⟩) := by simpa using hp
  simp [results, h, hp', asAddr, loadVar, isAgg, run_underlying hu, hg, go_sem]
/-- what the rounds of a walk keep -/
def walksI (Bi : Nat) (X0 : World) (pre : List Gone) (X : World) : Prop := Boxed X Bi 3 (.int .i64 (pre.length : Int)) ∧ Below X0.heap.size X0 X
theorem walksI_own (Bi B : Nat) (X0 : World) (hB : X0.heap.size ≤ B) : OwnFrom B (walksI Bi X0) := by
  rintro pre X Y row ⟨h1, h2⟩ hg hr
  exact ⟨cells_own Bi _ _ X Y row h1 hg (fun r e => (hr r e).2), ownFrom_below (β := Unit) (Nat.le_refl _) hB () X Y row h2 hg hr⟩
theorem works_true (k : Nat) (hk : 13 ≤ k) : morainelaw04_works.f k = some true := by
  unfold morainelaw04_works.f
  rw [encode_eq k 1 _ (by decide) ⟨by decide, fun x hx => by simp at hx; rcases hx with rfl | rfl <;> exact ⟨by decide, by decide⟩⟩ (by simpa using hk)]
  have h : encR 1 [(⟨1, (⟨#[107]⟩ : ByteArray), (⟨#[118]⟩ : ByteArray)⟩ : S65), (⟨0, (⟨#[100]⟩ : ByteArray), (⟨#[]⟩ : ByteArray)⟩ : S65)] = ([1, 0, 0, 0, 0, 0, 0, 0, 2, 0, 0, 0, 1, 1, 107, 1, 118, 0, 1, 100], 0) := by decide +kernel
  rw [h, Option.bind_some]
  simp only [if_true]
  decide +kernel
theorem enc_pre (s : Int) (l : List Op04) (rest : List Int) (h0 : 0 ≤ s) (h1 : s < 18446744073709551616) (hn : l.length ≤ 4096) (hm : ∀ x ∈ l, mayB x = true) (hL : (encB s l ++ rest).length ≤ 1099511627776) :
    le (seg (encB s l ++ rest) 0 8) = s ∧ le (seg (encB s l ++ rest) 8 4) = (l.length : Int) ∧ opsOf04 (goneL (encB s l ++ rest)) = l ∧ lastEnd (goneL (encB s l ++ rest)) = ((encB s l).length : Int) := by
  have hs8 : seg (encB s l ++ rest) 0 8 = fixF 8 s := by
    have := seg_mid [] (fixF 8 s) (fixF 4 (l.length : Int) ++ encOps l ++ rest)
    rw [fixF_len] at this
    simpa [encB] using this
  have hs4 : seg (encB s l ++ rest) 8 4 = fixF 4 (l.length : Int) := by
    have := seg_mid (fixF 8 s) (fixF 4 (l.length : Int)) (encOps l ++ rest)
    rw [fixF_len, fixF_len] at this
    simpa [encB] using this
  have q8 : le (seg (encB s l ++ rest) 0 8) = s := by rw [hs8, le_fixF 8 s h0, show (256 : Int) ^ 8 = 18446744073709551616 by decide]; omega
  have q4 : le (seg (encB s l ++ rest) 8 4) = (l.length : Int) := by rw [hs4, le_fixF 4 _ (by omega), show (256 : Int) ^ 4 = 4294967296 by decide]; omega
  have hg := gos_put (encB s l ++ rest) s hL l 0 12 (fixF 8 s ++ fixF 4 (l.length : Int)) rest (by simp [encB]) (by rw [List.length_append, fixF_len, fixF_len]; rfl) hm
  have hlen := encB_len s l
  have hG : goneL (encB s l ++ rest) = gos (encB s l ++ rest) s l.length 0 12 := by
    unfold goneL
    rw [if_neg (by rw [List.length_append]; omega), q8, q4]
    rfl
  refine ⟨q8, q4, by rw [hG]; exact hg.1, ?_⟩
  rw [lastEnd_eq, hG, hg.2, hlen, encOps_len]
  push_cast
  rfl
theorem sane_of_bulk4 {l : List S65} (h : sumBulk (fun x : S65 => 1 + (x.f1.size + 1) + (x.f2.size + 1) + 1) l ≤ 1048576) : Sane l := by
  refine ⟨Nat.le_trans (sumBulk_len _ (fun x => by omega) l) h, fun x hx => ?_⟩
  have := sumBulk_mem (fun x : S65 => 1 + (x.f1.size + 1) + (x.f2.size + 1) + 1) hx
  (try simp only [] at this)
  omega

end Go.Proofs.Ythkooncibfkepaa.G

/- Contracts typed by hand: batch.Builder: New, add, Put, Delete, Range, Len, Size, Bytes, Clear by its pointer -/
namespace Go.Proofs.Ythkooncibfkepaa.G
open Go.RowKit Go.Proofs.YthkooncibfkepaaW.PrintWords Go.Proofs.YthkooncibfkepaaW.PrintLast Go.Proofs.YthkooncibfkepaaW.PrintMore
attribute [local go_sem] max2_int min2_int max_two min_two max_three min_three max_four min_four
set_option linter.unusedVariables false
set_option linter.unusedSimpArgs false

/-! batch.Builder: New, add, Put, Delete, Range, Len, Size, Bytes, Clear by its pointer -/
/-- a builder in memory -/
structure BuAt (w : World) (g base : Nat) (v : Value) (l : List Op04) : Prop where
  cell : w.heap[g]? = some (.cells #[.bool true, v, .int .i64 ((12 + totN l : Nat) : Int)] 49 (0, 0))
  row : Kd.R k65 65 w base (fun _ => True) v l
  base_le : base ≤ g
theorem BuAt.below {w w' : World} {g base : Nat} {v : Value} {l : List Op04} (h : BuAt w g base v l) (hb : Below w.heap.size w w') : BuAt w' g base v l := ⟨blk_below h.cell hb, Kd.R_below h.row hb, h.base_le⟩
theorem BuAt.ne {w : World} {g base : Nat} {v : Value} {l : List Op04} (h : BuAt w g base v l) : some g ≠ v.ownBlock := Kd.R_ne h.row h.cell (by decide)
/-- what a builder's call turns: its own cells and its row -/
structure BuCh (w w' : World) (g : Nat) (v v' : Value) : Prop where
  os : w'.os = w.os
  tape : w'.tape = w.tape
  output : w'.output = w.output
  size : w.heap.size ≤ w'.heap.size
  block : ∀ k, k < w.heap.size → k ≠ g → some k ≠ v.ownBlock → w'.heap[k]? = w.heap[k]?
  row : v'.ownBlock = v.ownBlock ∨ v'.ownBlock = none ∨ ∃ b, v'.ownBlock = some b ∧ w.heap.size ≤ b
theorem BuCh.of_below {w w' : World} (g : Nat) (v : Value) (h : Below w.heap.size w w') : BuCh w w' g v v := ⟨h.os, h.tape, h.output, h.size, fun k hk _ _ => h.block k hk, .inl rfl⟩
theorem BuCh.bel {w w' : World} {g base : Nat} {v v' : Value} {l : List Op04} (h : BuCh w w' g v v') (hb : BuAt w g base v l) : Below base w w' :=
  ⟨h.os, h.tape, h.output, h.size, fun k hk => by
    have hg := blk_lt hb.cell
    have hb0 := hb.base_le
    refine h.block k (by omega) (by omega) (fun e => ?_)
    have := Kd.R_base hb.row k e.symm
    omega⟩
def addE (l : List Op04) (x : Op04) : Int := if mayB x = true then (if 4096 ≤ l.length ∨ 1048576 < 12 + totN l + szN x then 3 else 0) else 40
def addL (l : List Op04) (x : Op04) : List Op04 := if addE l x = 0 then l ++ [x] else l
theorem totN_snoc (l : List Op04) (x : Op04) : totN (l ++ [x]) = totN l + szN x := by rw [totN_append]; simp [totN]
set_option maxHeartbeats 4000000 in
theorem bu_new (w : World) : Calls Try.prog 23 #[] w fun e w' => e = .returned (.pointer (some ⟨w.heap.size, 0, none⟩)) ∧ BuAt w' w.heap.size w.heap.size (.slice none 0 0) [] ∧ Below w.heap.size w w' := by
  go_enter Try.func23, Try.ntmps23
  go_wp2
  go_ret
  exact ⟨rfl, ⟨World.alloc_heap_new _ _, Kd.R_nil _ _ _ _ _, Nat.le_refl _⟩, below_alloc (Below.refl _ _) _⟩
set_option maxHeartbeats 4000000 in
theorem bu_len (w : World) (g base : Nat) (v : Value) (l : List Op04) (h : BuAt w g base v l) : Calls Try.prog 24 #[.pointer (some ⟨g, 0, none⟩)] w fun e w' => e = .returned (.int .i64 (l.length : Int)) ∧ Drawn0 w w' := by
  obtain ⟨A, c, rfl⟩ := Kd.R_slice h.row
  have c1 := blk_cell h.cell 1
  clear h
  go_enter Try.func24, Try.ntmps24
  go_wp2
  go_ret
  exact ⟨rfl, Drawn0.refl _⟩
set_option maxHeartbeats 4000000 in
theorem bu_size (w : World) (g base : Nat) (v : Value) (l : List Op04) (h : BuAt w g base v l) : Calls Try.prog 25 #[.pointer (some ⟨g, 0, none⟩)] w fun e w' => e = .returned (.int .i64 ((12 + totN l : Nat) : Int)) ∧ Drawn0 w w' := by
  have c2 := blk_cell h.cell 2
  obtain ⟨z, hz⟩ : ∃ z : Int, ((12 + totN l : Nat) : Int) = z := ⟨_, rfl⟩
  rw [hz] at c2 ⊢
  clear h hz
  go_enter Try.func25, Try.ntmps25
  go_wp2
  go_ret
  exact ⟨rfl, Drawn0.refl _⟩
set_option maxHeartbeats 4000000 in
theorem bu_bytes (w : World) (g base : Nat) (v : Value) (l : List Op04) (seq : Int) (h : BuAt w g base v l) (k : Nat) (r1 : List Int) (r2 : Int) (he : batch_Encode.f k seq l = some (r1, r2)) : Calls Try.prog 27 #[.pointer (some ⟨g, 0, none⟩), .int .u64 seq] w fun e w' => ∃ v1, e = .returned (.tuple #[v1, .int .i64 r2]) ∧ Kd.R (Kd.int .u8) 5 w' w.heap.size (fun _ => True) v1 r1 ∧ Below w.heap.size w w' := by
  obtain ⟨A, c, rfl, hc, hC⟩ := Kd.R_reads h.row
  have c0 := blk_cell h.cell 0
  have c1 := blk_cell h.cell 1
  have HE := Aside0.mk he
  have HCC := Aside0.mk hC
  have HC := Aside0.mk hc
  clear h he hC hc
  go_enter Try.func27, Try.ntmps27
  go_wp2_with fail
  (with_reducible refine (batch_Encode.calls k seq A c l r1 r2 _ HCC.out HC.out HE.out).mono ?_)
  rintro e w1 ⟨v1, rfl, ho, hb⟩
  have HO := Aside0.mk ho
  have HB := Aside0.mk hb
  clear ho hb
  go_wp2
  refine bodyPost_ret (by simp [results, Try.results27, go_sem]; rfl) rfl ?_
  exact ⟨_, rfl, HO.out, HB.out⟩
set_option maxHeartbeats 4000000 in
theorem bu_clear (w : World) (g base : Nat) (v : Value) (l : List Op04) (h : BuAt w g base v l) : Calls Try.prog 28 #[.pointer (some ⟨g, 0, none⟩)] w fun e w' => (∃ r, e = .returned r) ∧ BuAt w' g base (.slice none 0 0) [] ∧ BuCh w w' g v (.slice none 0 0) := by
  have c0 := blk_cell h.cell 0
  have c1 := blk_cell h.cell 1
  have c2 := blk_cell h.cell 2
  have f0 := fun k => blk_frozen h.cell k
  have HH := Aside0.mk h
  clear h
  go_enter Try.func28, Try.ntmps28
  go_wp2
  go_end0
  have hne := HH.out.ne
  have hb := blk_put (cs := #[.bool true, .slice none 0 0, .int .i64 ((12 + totN l : Nat) : Int)]) (blk_put (cs := #[.bool true, v, .int .i64 ((12 + totN l : Nat) : Int)]) HH.out.cell 1 (.slice none 0 0) rfl) 2 (.int .i64 12) rfl
  refine ⟨⟨_, rfl⟩, ⟨hb, Kd.R_nil _ _ _ _ _, HH.out.base_le⟩, ?_⟩
  have q := (Below.refl g w).setCell (p := ⟨g, 1, none⟩) (Nat.le_refl _) (.slice none 0 0) |>.setCell (p := ⟨g, 2, none⟩) (Nat.le_refl _) (.int .i64 12)
  exact ⟨q.os, q.tape, q.output, q.size, fun k hk hg _ => (Below.heap_setCell _ ⟨g, 2, none⟩ _ k hg).trans (Below.heap_setCell _ ⟨g, 1, none⟩ _ k hg), .inr (.inl rfl)⟩
theorem opcells (W : World) (x : Op04) {b : Nat} (h : W.heap[b]? = some (.cells #[.int .i64 x.f0, .string x.f1, .string x.f2] 65 (0, 0))) : W.cell? ⟨b, 0, none⟩ = some (.int .i64 x.f0) ∧ W.cell? ⟨b, 1, none⟩ = some (.string x.f1) ∧ W.cell? ⟨b, 2, none⟩ = some (.string x.f2) :=
  ⟨blk_cell h 0, blk_cell h 1, blk_cell h 2⟩
set_option maxHeartbeats 8000000 in
set_option maxRecDepth 100000 in
theorem bu_add_no (w : World) (g base : Nat) (v : Value) (l : List Op04) (x : Op04) (h : BuAt w g base v l) (hm : mayB x = false) : Calls Try.prog 62 #[.pointer (some ⟨g, 0, none⟩), .agg #[.int .i64 x.f0, .string x.f1, .string x.f2]] w fun e w' => e = .returned (.int .i64 40) ∧ Below w.heap.size w w' := by
  obtain ⟨W1, hW1⟩ : ∃ W1, w.alloc (.cells #[.int .i64 x.f0, .string x.f1, .string x.f2] 65) = W1 := ⟨_, rfl⟩
  have hb1 : Below w.heap.size w W1 := by rw [← hW1]; exact below_alloc (Below.refl _ _) _
  have c0 := blk_cell (h.below hb1).cell 0
  rw [← hW1] at c0
  have HM := Aside0.mk (may_calls x W1)
  rw [hm] at HM
  have HB1 := Aside0.mk hb1
  have HW1 := Aside0.mk hW1
  clear h hm hb1 hW1
  obtain ⟨x0, x1, x2⟩ := x
  go_enter Try.func62, Try.ntmps62
  go_wp2_with fail
  rw [HW1.out]
  (with_reducible refine HM.out.mono ?_)
  rintro e w2 ⟨rfl, hb⟩
  have HB2 := Aside0.mk (below_step HB1.out hb)
  clear hb
  go_wp2
  go_ret
  exact ⟨rfl, HB2.out⟩
set_option maxHeartbeats 8000000 in
set_option maxRecDepth 100000 in
theorem bu_add_big (w : World) (g base : Nat) (v : Value) (l : List Op04) (x : Op04) (h : BuAt w g base v l) (hm : mayB x = true) (hn : 4096 ≤ l.length) : Calls Try.prog 62 #[.pointer (some ⟨g, 0, none⟩), .agg #[.int .i64 x.f0, .string x.f1, .string x.f2]] w fun e w' => e = .returned (.int .i64 3) ∧ Below w.heap.size w w' := by
  obtain ⟨Av, cv, rfl⟩ := Kd.R_slice h.row
  obtain ⟨W1, hW1⟩ : ∃ W1, w.alloc (.cells #[.int .i64 x.f0, .string x.f1, .string x.f2] 65) = W1 := ⟨_, rfl⟩
  have hb1 : Below w.heap.size w W1 := by rw [← hW1]; exact below_alloc (Below.refl _ _) _
  have c0 := blk_cell (h.below hb1).cell 0
  rw [← hW1] at c0
  have HM := Aside0.mk (may_calls x W1)
  rw [hm] at HM
  have HB1 := Aside0.mk hb1
  have HW1 := Aside0.mk hW1
  have HH := Aside0.mk (h.below hb1)
  have b1 : decide ((l.length : Int) ≥ 4096) = true := decide_eq_true (by omega)
  have b2 : decide (4096 ≤ l.length) = true := decide_eq_true hn
  clear h hm hb1 hW1
  obtain ⟨x0, x1, x2⟩ := x
  go_enter Try.func62, Try.ntmps62
  go_wp2_with fail
  rw [HW1.out]
  (with_reducible refine HM.out.mono ?_)
  rintro e w2 ⟨rfl, hb⟩
  have HB2 := Aside0.mk (below_step HB1.out hb)
  have k1 := blk_cell (HH.out.below hb).cell 1
  clear hb
  go_wp2
  go_quiet (fail)
  go_wp2
  go_ret
  exact ⟨rfl, pw_below_drewN HB2.out _⟩
theorem may_sizes (x : Op04) (h : mayB x = true) : x.f1.size ≤ 1024 ∧ x.f2.size ≤ 65536 := by
  unfold mayB at h
  split at h
  · simp at h
  · split at h
    · simp at h
    · refine ⟨by omega, ?_⟩
      split at h
      · have h2 := beq_iff_eq.1 h
        have : x.f2.toList.length = x.f2.size := by rw [Lib.toList_data, Array.length_toList]; rfl
        rw [h2] at this
        simp at this
        omega
      · split at h
        · have := of_decide_eq_true h; omega
        · split at h
          · split at h
            · omega
            · simp at h
          · simp at h
set_option maxHeartbeats 16000000 in
set_option maxRecDepth 100000 in
theorem bu_add_full (w : World) (g base : Nat) (v : Value) (l : List Op04) (x : Op04) (h : BuAt w g base v l) (ht : 12 + totN l ≤ 1048576) (hm : mayB x = true) (hn : l.length < 4096) (hf : 1048576 < 12 + totN l + szN x) : Calls Try.prog 62 #[.pointer (some ⟨g, 0, none⟩), .agg #[.int .i64 x.f0, .string x.f1, .string x.f2]] w fun e w' => e = .returned (.int .i64 3) ∧ Below w.heap.size w w' := by
  have hsz := may_sizes x hm
  obtain ⟨Av, cv, rfl⟩ := Kd.R_slice h.row
  obtain ⟨W1, hW1⟩ : ∃ W1, w.alloc (.cells #[.int .i64 x.f0, .string x.f1, .string x.f2] 65) = W1 := ⟨_, rfl⟩
  have hb1 : Below w.heap.size w W1 := by rw [← hW1]; exact below_alloc (Below.refl _ _) _
  have hx1 : W1.heap[w.heap.size]? = some (.cells #[.int .i64 x.f0, .string x.f1, .string x.f2] 65 (0, 0)) := by rw [← hW1]; exact World.alloc_heap_new _ _
  have c0 := blk_cell (h.below hb1).cell 0
  rw [← hW1] at c0
  have HM := Aside0.mk (may_calls x W1)
  rw [hm] at HM
  have hSZ : ∀ W : World, Calls Try.prog 70 #[.agg #[.int .i64 x.f0, .string x.f1, .string x.f2]] W fun e w' => e = .returned (.int .i64 ((szN x : Nat) : Int)) ∧ Below W.heap.size W w' := fun W => batch_size.calls 10 _ _ _ _ W (opsize_eq 10 x (by omega) (Nat.le_refl _))
  have hs2 := (szN_le (x := x) (by omega)).2
  have HB1 := Aside0.mk hb1
  have HW1 := Aside0.mk hW1
  have HX1 := Aside0.mk hx1
  have HSZ := Aside0.mk hSZ
  have HH := Aside0.mk (h.below hb1)
  have HH0 := Aside0.mk h
  obtain ⟨z, hz⟩ : ∃ z : Nat, 12 + totN l = z := ⟨_, rfl⟩
  obtain ⟨s, hs⟩ : ∃ s : Nat, szN x = s := ⟨_, rfl⟩
  rw [hz] at ht hf
  rw [hs] at HSZ hs2 hf
  have HZ := Aside0.mk hz
  have HS := Aside0.mk hs
  have b1 : decide ((l.length : Int) ≥ 4096) = false := decide_eq_false (by omega)
  have b2 : decide (4096 ≤ l.length) = false := decide_eq_false (by omega)
  clear h hm hb1 hW1 hx1 hsz hSZ hz hs
  have b3 : decide (1048576 < wrap64 ((z : Int) + (s : Int))) = true := by rw [show wrap64 ((z : Int) + (s : Int)) = (z : Int) + (s : Int) by unfold wrap64; omega]; exact decide_eq_true (by omega)
  clear hf
  obtain ⟨x0, x1, x2⟩ := x
  go_enter Try.func62, Try.ntmps62
  go_wp2_with fail
  rw [HW1.out]
  (with_reducible refine HM.out.mono ?_)
  rintro e w2 ⟨rfl, hb⟩
  have HB2 := Aside0.mk (below_step HB1.out hb)
  have HH2 := Aside0.mk (HH.out.below hb)
  have HX2 := Aside0.mk (blk_below HX1.out hb)
  have k1 : w2.cell? ⟨g, 1, none⟩ = some (.slice Av l.length cv) := blk_cell HH2.out.cell 1
  have k2 : w2.cell? ⟨g, 2, none⟩ = some (.int .i64 (z : Int)) := by rw [← HZ.out]; exact blk_cell HH2.out.cell 2
  have k3 : w2.cell? ⟨w.heap.size, 0, none⟩ = some (.int .i64 x0) := blk_cell HX2.out 0
  have k4 : w2.cell? ⟨w.heap.size, 1, none⟩ = some (.string x1) := blk_cell HX2.out 1
  have k5 : w2.cell? ⟨w.heap.size, 2, none⟩ = some (.string x2) := blk_cell HX2.out 2
  clear hb
  go_wp2_with fail
  refine start_ (n := 17) (S := fun w' => w'.cell? ⟨g, 1, none⟩ = some (.slice Av l.length cv) ∧ w'.cell? ⟨g, 2, none⟩ = some (.int .i64 (z : Int)) ∧ w'.cell? ⟨w.heap.size, 0, none⟩ = some (.int .i64 x0) ∧ w'.cell? ⟨w.heap.size, 1, none⟩ = some (.string x1) ∧ w'.cell? ⟨w.heap.size, 2, none⟩ = some (.string x2)) (ds := []) #[false, false, false, false, false, false, false, false, false, false, false, false, false, false, false, false, false] (by kernel_rfl) rfl rfl ⟨k1, k2, k3, k4, k5⟩ (fun hHeld => ?_)
  refine pure_ (i := 0) (N := some 20) (v := ?_) (a' := ?_) #[true, false, false, false, false, false, false, false, false, false, false, false, false, false, false, false, false] rfl rfl (by kernel_rfl) (fun _ _ _ h => h) (Or.inl ⟨by rfl, ?_⟩) ?_ ?_
  rotate_left
  · intro w'
    go_simp
    with_reducible rfl
  rotate_left
  · simp only [Act.put, List.setIfInBounds_toArray, List.set_cons_zero, List.set_cons_succ, i64_w, i32_w]
    rfl
  refine pure_ (i := 1) (N := some 21) (v := ?_) (a' := ?_) #[true, true, false, false, false, false, false, false, false, false, false, false, false, false, false, false, false] rfl rfl (by kernel_rfl) (fun _ _ _ h => h) (Or.inl ⟨by rfl, ?_⟩) ?_ ?_
  rotate_left
  · intro w'
    go_simp
    with_reducible rfl
  rotate_left
  · simp only [Act.put, List.setIfInBounds_toArray, List.set_cons_zero, List.set_cons_succ, i64_w, i32_w]
    rfl
  refine pure_ (i := 2) (N := some 22) (v := ?_) (a' := ?_) #[true, true, true, false, false, false, false, false, false, false, false, false, false, false, false, false, false] rfl rfl (by kernel_rfl) (fun _ _ _ h => h) (Or.inl ⟨by rfl, ?_⟩) ?_ ?_
  rotate_left
  · intro w'
    go_simp
    with_reducible rfl
  rotate_left
  · simp only [Act.put, List.setIfInBounds_toArray, List.set_cons_zero, List.set_cons_succ, i64_w, i32_w]
    rfl
  refine take_ (i := 3) (N := some 23) (v := ?_) (a' := ?_) #[true, true, true, true, false, false, false, false, false, false, false, false, false, false, false, false, false] rfl rfl (by kernel_rfl) (fun _ _ _ h => h) (Or.inl ⟨by rfl, ?_⟩) hHeld ?_ ?_
  rotate_left
  · rintro w' ⟨s0, s1, s2, s3, s4⟩
    go_simp
    with_reducible rfl
  rotate_left
  · simp only [Act.put, List.setIfInBounds_toArray, List.set_cons_zero, List.set_cons_succ, i64_w, i32_w]
    rfl
  refine pure_ (i := 4) (N := some 24) (v := ?_) (a' := ?_) #[true, true, true, true, true, false, false, false, false, false, false, false, false, false, false, false, false] rfl rfl (by kernel_rfl) (fun _ _ _ h => h) (Or.inl ⟨by rfl, ?_⟩) ?_ ?_
  rotate_left
  · intro w'
    go_simp
    with_reducible rfl
  rotate_left
  · simp only [Act.put, List.setIfInBounds_toArray, List.set_cons_zero, List.set_cons_succ, i64_w, i32_w]
    rfl
  refine pure_ (i := 5) (N := some 25) (v := ?_) (a' := ?_) #[true, true, true, true, true, true, false, false, false, false, false, false, false, false, false, false, false] rfl rfl (by kernel_rfl) (fun _ _ _ h => h) (Or.inl ⟨by rfl, ?_⟩) ?_ ?_
  rotate_left
  · intro w'
    go_simp
    with_reducible rfl
  rotate_left
  · simp only [Act.put, List.setIfInBounds_toArray, List.set_cons_zero, List.set_cons_succ, i64_w, i32_w]
    rfl
  refine pure_ (i := 6) (N := some 26) (v := ?_) (a' := ?_) #[true, true, true, true, true, true, true, false, false, false, false, false, false, false, false, false, false] rfl rfl (by kernel_rfl) (fun _ _ _ h => h) (Or.inl ⟨by rfl, ?_⟩) ?_ ?_
  rotate_left
  · intro w'
    go_simp
    with_reducible rfl
  rotate_left
  · simp only [Act.put, List.setIfInBounds_toArray, List.set_cons_zero, List.set_cons_succ, i64_w, i32_w]
    rfl
  refine pure_ (i := 7) (N := some 27) (v := ?_) (a' := ?_) #[true, true, true, true, true, true, true, true, false, false, false, false, false, false, false, false, false] rfl rfl (by kernel_rfl) (fun _ _ _ h => h) (Or.inl ⟨by rfl, ?_⟩) ?_ ?_
  rotate_left
  · intro w'
    go_simp
    with_reducible rfl
  rotate_left
  · simp only [Act.put, List.setIfInBounds_toArray, List.set_cons_zero, List.set_cons_succ, i64_w, i32_w]
    rfl
  refine pure_ (i := 8) (N := some 28) (v := ?_) (a' := ?_) #[true, true, true, true, true, true, true, true, true, false, false, false, false, false, false, false, false] rfl rfl (by kernel_rfl) (fun _ _ _ h => h) (Or.inl ⟨by rfl, ?_⟩) ?_ ?_
  rotate_left
  · intro w'
    go_simp
    with_reducible rfl
  rotate_left
  · simp only [Act.put, List.setIfInBounds_toArray, List.set_cons_zero, List.set_cons_succ, i64_w, i32_w]
    rfl
  refine pure_ (i := 9) (N := some 29) (v := ?_) (a' := ?_) #[true, true, true, true, true, true, true, true, true, true, false, false, false, false, false, false, false] rfl rfl (by kernel_rfl) (fun _ _ _ h => h) (Or.inl ⟨by rfl, ?_⟩) ?_ ?_
  rotate_left
  · intro w'
    go_simp
    with_reducible rfl
  rotate_left
  · simp only [Act.put, List.setIfInBounds_toArray, List.set_cons_zero, List.set_cons_succ, i64_w, i32_w]
    rfl
  refine take_ (i := 10) (N := some 30) (v := ?_) (a' := ?_) #[true, true, true, true, true, true, true, true, true, true, true, false, false, false, false, false, false] rfl rfl (by kernel_rfl) (fun _ _ _ h => h) (Or.inl ⟨by rfl, ?_⟩) hHeld ?_ ?_
  rotate_left
  · rintro w' ⟨s0, s1, s2, s3, s4⟩
    go_simp
    with_reducible rfl
  rotate_left
  · simp only [Act.put, List.setIfInBounds_toArray, List.set_cons_zero, List.set_cons_succ, i64_w, i32_w]
    rfl
  refine take_ (i := 11) (N := some 31) (v := ?_) (a' := ?_) #[true, true, true, true, true, true, true, true, true, true, true, true, false, false, false, false, false] rfl rfl (by kernel_rfl) (fun _ _ _ h => h) (Or.inl ⟨by rfl, ?_⟩) hHeld ?_ ?_
  rotate_left
  · rintro w' ⟨s0, s1, s2, s3, s4⟩
    go_simp
    with_reducible rfl
  rotate_left
  · simp only [Act.put, List.setIfInBounds_toArray, List.set_cons_zero, List.set_cons_succ, i64_w, i32_w]
    rfl
  refine one_ (i := 12) (N := some 32) #[true, true, true, true, true, true, true, true, true, true, true, true, true, false, false, false, false] rfl rfl (by kernel_rfl) (by decide) (fun K hK => ?_)
  refine goes_ Try.func70 (by kernel_rfl) rfl #[.agg #[.int .i64 x0, .string x1, .string x2]] (by rfl) rfl rfl (by simp only [List.map_toArray, List.map_cons, List.map_nil]; rfl) ?_
  with_reducible refine (HSZ.out _).mono ?_
  rintro e wa ⟨rfl, hb⟩
  refine ⟨_, rfl, ?_⟩
  have HBA := Aside0.mk (show Below w2.heap.size w2 wa from below_step (below_drew1 (Below.refl _ _)) hb)
  have q1 := pw_cell_below HBA.out k1
  have q2 := pw_cell_below HBA.out k2
  have q3 := pw_cell_below HBA.out k3
  have q4 := pw_cell_below HBA.out k4
  have q5 := pw_cell_below HBA.out k5
  clear hb
  refine hK.out _ _ ⟨q1, q2, q3, q4, q5⟩ (fun hHeld => ?_)
  clear hK K
  refine norm_ (a' := ?_) ?_ ?_
  rotate_left
  · show Act.put _ (some 32) _ = _
    simp only [Act.put, List.setIfInBounds_toArray, List.set_cons_zero, List.set_cons_succ, i64_w, i32_w]
    rfl
  refine pure_ (i := 13) (N := some 33) (v := ?_) (a' := ?_) #[true, true, true, true, true, true, true, true, true, true, true, true, true, true, false, false, false] rfl rfl (by kernel_rfl) (fun _ _ _ h => h) (Or.inl ⟨by rfl, ?_⟩) ?_ ?_
  rotate_left
  · intro w'
    go_simp
    with_reducible rfl
  rotate_left
  · simp only [Act.put, List.setIfInBounds_toArray, List.set_cons_zero, List.set_cons_succ, i64_w, i32_w]
    rfl
  refine pure_ (i := 14) (N := some 34) (v := ?_) (a' := ?_) #[true, true, true, true, true, true, true, true, true, true, true, true, true, true, true, false, false] rfl rfl (by kernel_rfl) (fun _ _ _ h => h) (Or.inl ⟨by rfl, ?_⟩) ?_ ?_
  rotate_left
  · intro w'
    go_simp
    with_reducible rfl
  rotate_left
  · simp only [Act.put, List.setIfInBounds_toArray, List.set_cons_zero, List.set_cons_succ, i64_w, i32_w]
    rfl
  refine pure_ (i := 15) (N := some 35) (v := ?_) (a' := ?_) #[true, true, true, true, true, true, true, true, true, true, true, true, true, true, true, true, false] rfl rfl (by kernel_rfl) (fun _ _ _ h => h) (Or.inl ⟨by rfl, ?_⟩) ?_ ?_
  rotate_left
  · intro w'
    go_simp
    with_reducible rfl
  rotate_left
  · simp only [Act.put, List.setIfInBounds_toArray, List.set_cons_zero, List.set_cons_succ, i64_w, i32_w]
    rfl
  refine pure_ (i := 16) (N := some 19) (v := ?_) (a' := ?_) #[true, true, true, true, true, true, true, true, true, true, true, true, true, true, true, true, true] rfl rfl (by kernel_rfl) (fun _ _ _ h => h) (Or.inl ⟨by rfl, ?_⟩) ?_ ?_
  rotate_left
  · intro w'
    go_simp
    with_reducible rfl
  rotate_left
  · simp only [Act.put, List.setIfInBounds_toArray, List.set_cons_zero, List.set_cons_succ, i64_w, i32_w]
    rfl
  refine done_ (by kernel_rfl) ?_
  go_wp2
  go_ret
  exact ⟨rfl, below_step HB2.out HBA.out⟩
set_option maxHeartbeats 16000000 in
set_option maxRecDepth 100000 in
theorem bu_add_ok (w : World) (g base : Nat) (v : Value) (l : List Op04) (x : Op04) (h : BuAt w g base v l) (ht : 12 + totN l ≤ 1048576) (hm : mayB x = true) (hn : l.length < 4096) (hf : 12 + totN l + szN x ≤ 1048576) (hbw : base ≤ w.heap.size) : Calls Try.prog 62 #[.pointer (some ⟨g, 0, none⟩), .agg #[.int .i64 x.f0, .string x.f1, .string x.f2]] w fun e w' => ∃ v', e = .returned (.int .i64 0) ∧ BuAt w' g base v' (l ++ [x]) ∧ BuCh w w' g v v' := by
  have hsz := may_sizes x hm
  obtain ⟨Av, cv, rfl⟩ := Kd.R_slice h.row
  obtain ⟨W1, hW1⟩ : ∃ W1, w.alloc (.cells #[.int .i64 x.f0, .string x.f1, .string x.f2] 65) = W1 := ⟨_, rfl⟩
  have hb1 : Below w.heap.size w W1 := by rw [← hW1]; exact below_alloc (Below.refl _ _) _
  have hx1 : W1.heap[w.heap.size]? = some (.cells #[.int .i64 x.f0, .string x.f1, .string x.f2] 65 (0, 0)) := by rw [← hW1]; exact World.alloc_heap_new _ _
  have c0 := blk_cell (h.below hb1).cell 0
  rw [← hW1] at c0
  have HM := Aside0.mk (may_calls x W1)
  rw [hm] at HM
  have hSZ : ∀ W : World, Calls Try.prog 70 #[.agg #[.int .i64 x.f0, .string x.f1, .string x.f2]] W fun e w' => e = .returned (.int .i64 ((szN x : Nat) : Int)) ∧ Below W.heap.size W w' := fun W => batch_size.calls 10 _ _ _ _ W (opsize_eq 10 x (by omega) (Nat.le_refl _))
  have hs2 := (szN_le (x := x) (by omega)).2
  have HB1 := Aside0.mk hb1
  have HW1 := Aside0.mk hW1
  have HX1 := Aside0.mk hx1
  have HSZ := Aside0.mk hSZ
  have HH := Aside0.mk (h.below hb1)
  have HH0 := Aside0.mk h
  obtain ⟨z, hz⟩ : ∃ z : Nat, 12 + totN l = z := ⟨_, rfl⟩
  obtain ⟨s, hs⟩ : ∃ s : Nat, szN x = s := ⟨_, rfl⟩
  rw [hz] at ht hf
  rw [hs] at HSZ hs2 hf
  have HZ := Aside0.mk hz
  have HS := Aside0.mk hs
  have b1 : decide ((l.length : Int) ≥ 4096) = false := decide_eq_false (by omega)
  have b2 : decide (4096 ≤ l.length) = false := decide_eq_false (by omega)
  clear h hm hb1 hW1 hx1 hsz hSZ hz hs
  have b3 : decide (1048576 < wrap64 ((z : Int) + (s : Int))) = false := by rw [show wrap64 ((z : Int) + (s : Int)) = (z : Int) + (s : Int) by unfold wrap64; omega]; exact decide_eq_false (by omega)
  have HF := Aside0.mk hf
  have HBW := Aside0.mk hbw
  have HWZ := Aside0.mk (show wrap64 ((z : Int) + (s : Int)) = ((z + s : Nat) : Int) by unfold wrap64; omega)
  clear hbw
  clear hf
  obtain ⟨x0, x1, x2⟩ := x
  go_enter Try.func62, Try.ntmps62
  go_wp2_with fail
  rw [HW1.out]
  (with_reducible refine HM.out.mono ?_)
  rintro e w2 ⟨rfl, hb⟩
  have HB2 := Aside0.mk (below_step HB1.out hb)
  have HH2 := Aside0.mk (HH.out.below hb)
  have HX2 := Aside0.mk (blk_below HX1.out hb)
  have k1 : w2.cell? ⟨g, 1, none⟩ = some (.slice Av l.length cv) := blk_cell HH2.out.cell 1
  have k2 : w2.cell? ⟨g, 2, none⟩ = some (.int .i64 (z : Int)) := by rw [← HZ.out]; exact blk_cell HH2.out.cell 2
  have k3 : w2.cell? ⟨w.heap.size, 0, none⟩ = some (.int .i64 x0) := blk_cell HX2.out 0
  have k4 : w2.cell? ⟨w.heap.size, 1, none⟩ = some (.string x1) := blk_cell HX2.out 1
  have k5 : w2.cell? ⟨w.heap.size, 2, none⟩ = some (.string x2) := blk_cell HX2.out 2
  clear hb
  go_wp2_with fail
  refine start_ (n := 17) (S := fun w' => w'.cell? ⟨g, 1, none⟩ = some (.slice Av l.length cv) ∧ w'.cell? ⟨g, 2, none⟩ = some (.int .i64 (z : Int)) ∧ w'.cell? ⟨w.heap.size, 0, none⟩ = some (.int .i64 x0) ∧ w'.cell? ⟨w.heap.size, 1, none⟩ = some (.string x1) ∧ w'.cell? ⟨w.heap.size, 2, none⟩ = some (.string x2)) (ds := []) #[false, false, false, false, false, false, false, false, false, false, false, false, false, false, false, false, false] (by kernel_rfl) rfl rfl ⟨k1, k2, k3, k4, k5⟩ (fun hHeld => ?_)
  refine pure_ (i := 0) (N := some 20) (v := ?_) (a' := ?_) #[true, false, false, false, false, false, false, false, false, false, false, false, false, false, false, false, false] rfl rfl (by kernel_rfl) (fun _ _ _ h => h) (Or.inl ⟨by rfl, ?_⟩) ?_ ?_
  rotate_left
  · intro w'
    go_simp
    with_reducible rfl
  rotate_left
  · simp only [Act.put, List.setIfInBounds_toArray, List.set_cons_zero, List.set_cons_succ, i64_w, i32_w]
    rfl
  refine pure_ (i := 1) (N := some 21) (v := ?_) (a' := ?_) #[true, true, false, false, false, false, false, false, false, false, false, false, false, false, false, false, false] rfl rfl (by kernel_rfl) (fun _ _ _ h => h) (Or.inl ⟨by rfl, ?_⟩) ?_ ?_
  rotate_left
  · intro w'
    go_simp
    with_reducible rfl
  rotate_left
  · simp only [Act.put, List.setIfInBounds_toArray, List.set_cons_zero, List.set_cons_succ, i64_w, i32_w]
    rfl
  refine pure_ (i := 2) (N := some 22) (v := ?_) (a' := ?_) #[true, true, true, false, false, false, false, false, false, false, false, false, false, false, false, false, false] rfl rfl (by kernel_rfl) (fun _ _ _ h => h) (Or.inl ⟨by rfl, ?_⟩) ?_ ?_
  rotate_left
  · intro w'
    go_simp
    with_reducible rfl
  rotate_left
  · simp only [Act.put, List.setIfInBounds_toArray, List.set_cons_zero, List.set_cons_succ, i64_w, i32_w]
    rfl
  refine take_ (i := 3) (N := some 23) (v := ?_) (a' := ?_) #[true, true, true, true, false, false, false, false, false, false, false, false, false, false, false, false, false] rfl rfl (by kernel_rfl) (fun _ _ _ h => h) (Or.inl ⟨by rfl, ?_⟩) hHeld ?_ ?_
  rotate_left
  · rintro w' ⟨s0, s1, s2, s3, s4⟩
    go_simp
    with_reducible rfl
  rotate_left
  · simp only [Act.put, List.setIfInBounds_toArray, List.set_cons_zero, List.set_cons_succ, i64_w, i32_w]
    rfl
  refine pure_ (i := 4) (N := some 24) (v := ?_) (a' := ?_) #[true, true, true, true, true, false, false, false, false, false, false, false, false, false, false, false, false] rfl rfl (by kernel_rfl) (fun _ _ _ h => h) (Or.inl ⟨by rfl, ?_⟩) ?_ ?_
  rotate_left
  · intro w'
    go_simp
    with_reducible rfl
  rotate_left
  · simp only [Act.put, List.setIfInBounds_toArray, List.set_cons_zero, List.set_cons_succ, i64_w, i32_w]
    rfl
  refine pure_ (i := 5) (N := some 25) (v := ?_) (a' := ?_) #[true, true, true, true, true, true, false, false, false, false, false, false, false, false, false, false, false] rfl rfl (by kernel_rfl) (fun _ _ _ h => h) (Or.inl ⟨by rfl, ?_⟩) ?_ ?_
  rotate_left
  · intro w'
    go_simp
    with_reducible rfl
  rotate_left
  · simp only [Act.put, List.setIfInBounds_toArray, List.set_cons_zero, List.set_cons_succ, i64_w, i32_w]
    rfl
  refine pure_ (i := 6) (N := some 26) (v := ?_) (a' := ?_) #[true, true, true, true, true, true, true, false, false, false, false, false, false, false, false, false, false] rfl rfl (by kernel_rfl) (fun _ _ _ h => h) (Or.inl ⟨by rfl, ?_⟩) ?_ ?_
  rotate_left
  · intro w'
    go_simp
    with_reducible rfl
  rotate_left
  · simp only [Act.put, List.setIfInBounds_toArray, List.set_cons_zero, List.set_cons_succ, i64_w, i32_w]
    rfl
  refine pure_ (i := 7) (N := some 27) (v := ?_) (a' := ?_) #[true, true, true, true, true, true, true, true, false, false, false, false, false, false, false, false, false] rfl rfl (by kernel_rfl) (fun _ _ _ h => h) (Or.inl ⟨by rfl, ?_⟩) ?_ ?_
  rotate_left
  · intro w'
    go_simp
    with_reducible rfl
  rotate_left
  · simp only [Act.put, List.setIfInBounds_toArray, List.set_cons_zero, List.set_cons_succ, i64_w, i32_w]
    rfl
  refine pure_ (i := 8) (N := some 28) (v := ?_) (a' := ?_) #[true, true, true, true, true, true, true, true, true, false, false, false, false, false, false, false, false] rfl rfl (by kernel_rfl) (fun _ _ _ h => h) (Or.inl ⟨by rfl, ?_⟩) ?_ ?_
  rotate_left
  · intro w'
    go_simp
    with_reducible rfl
  rotate_left
  · simp only [Act.put, List.setIfInBounds_toArray, List.set_cons_zero, List.set_cons_succ, i64_w, i32_w]
    rfl
  refine pure_ (i := 9) (N := some 29) (v := ?_) (a' := ?_) #[true, true, true, true, true, true, true, true, true, true, false, false, false, false, false, false, false] rfl rfl (by kernel_rfl) (fun _ _ _ h => h) (Or.inl ⟨by rfl, ?_⟩) ?_ ?_
  rotate_left
  · intro w'
    go_simp
    with_reducible rfl
  rotate_left
  · simp only [Act.put, List.setIfInBounds_toArray, List.set_cons_zero, List.set_cons_succ, i64_w, i32_w]
    rfl
  refine take_ (i := 10) (N := some 30) (v := ?_) (a' := ?_) #[true, true, true, true, true, true, true, true, true, true, true, false, false, false, false, false, false] rfl rfl (by kernel_rfl) (fun _ _ _ h => h) (Or.inl ⟨by rfl, ?_⟩) hHeld ?_ ?_
  rotate_left
  · rintro w' ⟨s0, s1, s2, s3, s4⟩
    go_simp
    with_reducible rfl
  rotate_left
  · simp only [Act.put, List.setIfInBounds_toArray, List.set_cons_zero, List.set_cons_succ, i64_w, i32_w]
    rfl
  refine take_ (i := 11) (N := some 31) (v := ?_) (a' := ?_) #[true, true, true, true, true, true, true, true, true, true, true, true, false, false, false, false, false] rfl rfl (by kernel_rfl) (fun _ _ _ h => h) (Or.inl ⟨by rfl, ?_⟩) hHeld ?_ ?_
  rotate_left
  · rintro w' ⟨s0, s1, s2, s3, s4⟩
    go_simp
    with_reducible rfl
  rotate_left
  · simp only [Act.put, List.setIfInBounds_toArray, List.set_cons_zero, List.set_cons_succ, i64_w, i32_w]
    rfl
  refine one_ (i := 12) (N := some 32) #[true, true, true, true, true, true, true, true, true, true, true, true, true, false, false, false, false] rfl rfl (by kernel_rfl) (by decide) (fun K hK => ?_)
  refine goes_ Try.func70 (by kernel_rfl) rfl #[.agg #[.int .i64 x0, .string x1, .string x2]] (by rfl) rfl rfl (by simp only [List.map_toArray, List.map_cons, List.map_nil]; rfl) ?_
  with_reducible refine (HSZ.out _).mono ?_
  rintro e wa ⟨rfl, hb⟩
  refine ⟨_, rfl, ?_⟩
  have HBA := Aside0.mk (show Below w2.heap.size w2 wa from below_step (below_drew1 (Below.refl _ _)) hb)
  have q1 := pw_cell_below HBA.out k1
  have q2 := pw_cell_below HBA.out k2
  have q3 := pw_cell_below HBA.out k3
  have q4 := pw_cell_below HBA.out k4
  have q5 := pw_cell_below HBA.out k5
  clear hb
  refine hK.out _ _ ⟨q1, q2, q3, q4, q5⟩ (fun hHeld => ?_)
  clear hK K
  refine norm_ (a' := ?_) ?_ ?_
  rotate_left
  · show Act.put _ (some 32) _ = _
    simp only [Act.put, List.setIfInBounds_toArray, List.set_cons_zero, List.set_cons_succ, i64_w, i32_w]
    rfl
  refine pure_ (i := 13) (N := some 33) (v := ?_) (a' := ?_) #[true, true, true, true, true, true, true, true, true, true, true, true, true, true, false, false, false] rfl rfl (by kernel_rfl) (fun _ _ _ h => h) (Or.inl ⟨by rfl, ?_⟩) ?_ ?_
  rotate_left
  · intro w'
    go_simp
    with_reducible rfl
  rotate_left
  · simp only [Act.put, List.setIfInBounds_toArray, List.set_cons_zero, List.set_cons_succ, i64_w, i32_w]
    rfl
  refine pure_ (i := 14) (N := some 34) (v := ?_) (a' := ?_) #[true, true, true, true, true, true, true, true, true, true, true, true, true, true, true, false, false] rfl rfl (by kernel_rfl) (fun _ _ _ h => h) (Or.inl ⟨by rfl, ?_⟩) ?_ ?_
  rotate_left
  · intro w'
    go_simp
    with_reducible rfl
  rotate_left
  · simp only [Act.put, List.setIfInBounds_toArray, List.set_cons_zero, List.set_cons_succ, i64_w, i32_w]
    rfl
  refine pure_ (i := 15) (N := some 35) (v := ?_) (a' := ?_) #[true, true, true, true, true, true, true, true, true, true, true, true, true, true, true, true, false] rfl rfl (by kernel_rfl) (fun _ _ _ h => h) (Or.inl ⟨by rfl, ?_⟩) ?_ ?_
  rotate_left
  · intro w'
    go_simp
    with_reducible rfl
  rotate_left
  · simp only [Act.put, List.setIfInBounds_toArray, List.set_cons_zero, List.set_cons_succ, i64_w, i32_w]
    rfl
  refine pure_ (i := 16) (N := some 19) (v := ?_) (a' := ?_) #[true, true, true, true, true, true, true, true, true, true, true, true, true, true, true, true, true] rfl rfl (by kernel_rfl) (fun _ _ _ h => h) (Or.inl ⟨by rfl, ?_⟩) ?_ ?_
  rotate_left
  · intro w'
    go_simp
    with_reducible rfl
  rotate_left
  · simp only [Act.put, List.setIfInBounds_toArray, List.set_cons_zero, List.set_cons_succ, i64_w, i32_w]
    rfl
  refine done_ (by kernel_rfl) ?_
  have HHA := Aside0.mk (HH2.out.below HBA.out)
  have HXA := Aside0.mk (blk_below HX2.out HBA.out)
  have hgne : g ≠ w.heap.size := by have := blk_lt HH0.out.cell; omega
  have hbase : base ≤ wa.drew.heap.size := Nat.le_trans HBW.out (Nat.le_trans (below_step HB2.out HBA.out).size (Nat.le_refl _))
  have HBL := Aside0.mk (show Below base w wa.drew from below_drew ((below_step HB2.out HBA.out).mono HBW.out))
  have hgl : g < wa.drew.heap.size := blk_lt HHA.out.cell
  have HLN := Aside0.mk (show (l.length + 1) * 40 ≤ 140737488355328 by omega)
  clear b1 b2
  go_wp2_with fail
  refine start_ (n := 11) (S := fun w' => w'.cell? ⟨g, 1, none⟩ = some (.slice Av l.length cv) ∧ w'.cell? ⟨w.heap.size, 0, none⟩ = some (.int .i64 x0) ∧ w'.cell? ⟨w.heap.size, 1, none⟩ = some (.string x1) ∧ w'.cell? ⟨w.heap.size, 2, none⟩ = some (.string x2)) (ds := [10]) #[false, false, false, false, false, false, false, false, false, false, false] (by kernel_rfl) rfl rfl ⟨q1, q3, q4, q5⟩ (fun hHeld => ?_)
  refine pure_ (i := 0) (N := some 36) (v := ?_) (a' := ?_) #[true, false, false, false, false, false, false, false, false, false, false] rfl rfl (by kernel_rfl) (fun _ _ _ h => h) (Or.inl ⟨by rfl, ?_⟩) ?_ ?_
  rotate_left
  · intro w'
    go_simp
    with_reducible rfl
  rotate_left
  · simp only [Act.put, List.setIfInBounds_toArray, List.set_cons_zero, List.set_cons_succ, i64_w, i32_w]
    rfl
  refine pure_ (i := 1) (N := some 37) (v := ?_) (a' := ?_) #[true, true, false, false, false, false, false, false, false, false, false] rfl rfl (by kernel_rfl) (fun _ _ _ h => h) (Or.inl ⟨by rfl, ?_⟩) ?_ ?_
  rotate_left
  · intro w'
    go_simp
    with_reducible rfl
  rotate_left
  · simp only [Act.put, List.setIfInBounds_toArray, List.set_cons_zero, List.set_cons_succ, i64_w, i32_w]
    rfl
  refine pure_ (i := 2) (N := some 38) (v := ?_) (a' := ?_) #[true, true, true, false, false, false, false, false, false, false, false] rfl rfl (by kernel_rfl) (fun _ _ _ h => h) (Or.inl ⟨by rfl, ?_⟩) ?_ ?_
  rotate_left
  · intro w'
    go_simp
    with_reducible rfl
  rotate_left
  · simp only [Act.put, List.setIfInBounds_toArray, List.set_cons_zero, List.set_cons_succ, i64_w, i32_w]
    rfl
  refine pure_ (i := 3) (N := some 39) (v := ?_) (a' := ?_) #[true, true, true, true, false, false, false, false, false, false, false] rfl rfl (by kernel_rfl) (fun _ _ _ h => h) (Or.inl ⟨by rfl, ?_⟩) ?_ ?_
  rotate_left
  · intro w'
    go_simp
    with_reducible rfl
  rotate_left
  · simp only [Act.put, List.setIfInBounds_toArray, List.set_cons_zero, List.set_cons_succ, i64_w, i32_w]
    rfl
  refine take_ (i := 4) (N := some 40) (v := ?_) (a' := ?_) #[true, true, true, true, true, false, false, false, false, false, false] rfl rfl (by kernel_rfl) (fun _ _ _ h => h) (Or.inl ⟨by rfl, ?_⟩) hHeld ?_ ?_
  rotate_left
  · rintro w' ⟨s0, s1, s2, s3⟩
    go_simp
    with_reducible rfl
  rotate_left
  · simp only [Act.put, List.setIfInBounds_toArray, List.set_cons_zero, List.set_cons_succ, i64_w, i32_w]
    rfl
  refine take_ (i := 5) (N := some 41) (v := ?_) (a' := ?_) #[true, true, true, true, true, true, false, false, false, false, false] rfl rfl (by kernel_rfl) (fun _ _ _ h => h) (Or.inl ⟨by rfl, ?_⟩) hHeld ?_ ?_
  rotate_left
  · rintro w' ⟨s0, s1, s2, s3⟩
    go_simp
    with_reducible rfl
  rotate_left
  · simp only [Act.put, List.setIfInBounds_toArray, List.set_cons_zero, List.set_cons_succ, i64_w, i32_w]
    rfl
  refine one_ (i := 6) (N := some 42) #[true, true, true, true, true, true, true, false, false, false, false] rfl rfl (by kernel_rfl) (by decide) (fun K hK => ?_)
  refine value_ (w1 := ?_) (v := ?_) (by rfl) rfl ?_ ?_
  rotate_left 2
  · go_simp
    constructor
    · rfl
    · rfl
  refine hK.out _ _ ⟨(pw_cell_below (below_alloc (Below.refl _ _) _) q1), (pw_cell_below (below_alloc (Below.refl _ _) _) q3), (pw_cell_below (below_alloc (Below.refl _ _) _) q4), (pw_cell_below (below_alloc (Below.refl _ _) _) q5)⟩ (fun hHeld => ?_)
  clear hK K
  refine norm_ (a' := ?_) ?_ ?_
  rotate_left
  · show Act.put _ (some 42) _ = _
    simp only [Act.put, List.setIfInBounds_toArray, List.set_cons_zero, List.set_cons_succ, i64_w, i32_w]
    rfl
  refine one_ (i := 7) (N := some 43) #[true, true, true, true, true, true, true, true, false, false, false] rfl rfl (by kernel_rfl) (by decide) (fun K hK => ?_)
  refine Kd.R_append_step k65 (w0 := w) (W := wa.drew) base (by rfl) (.tmp 40) (.tmp 42) 22 65 (.agg #[(.int .i64 0), (.string ⟨#[]⟩), (.string ⟨#[]⟩)]) 40 rfl Try.underlying22 info65 rfl (by decide) (by decide) (.slice Av l.length cv) l ⟨x0, x1, x2⟩ [.int .i64 x0, .string x1, .string x2] (fun _ => True) (fun _ => False) rfl rfl (k65_mkM _ _ _ ⟨x0, x1, x2⟩) (fun q hq => hq.elim) (fun _ _ => trivial) (Kd.R_drew HHA.out.row) HBL.out hbase HLN.out ?_
  intro v1 w1 ho hb hg hat
  obtain ⟨b2, c2, rfl, hb2, hb2l, _⟩ := Kd.R_form ho (by simp)
  have HR1 := Aside0.mk ho
  have HB1' := Aside0.mk hb
  have HG1 := Aside0.mk hg
  have HAT := Aside0.mk hat
  have hcg : w1.heap[g]? = some (.cells #[.bool true, .slice Av l.length cv, .int .i64 ((12 + totN l : Nat) : Int)] 49 (0, 0)) := (hg.block g hgl HHA.out.ne).trans HHA.out.cell
  have hcx : w1.heap[w.heap.size]? = some (.cells #[.int .i64 x0, .string x1, .string x2] 65 (0, 0)) := (hg.block w.heap.size (blk_lt HXA.out) (fun e => by have := Kd.R_lt HH0.out.row _ e.symm; omega)).trans HXA.out
  have HCG := Aside0.mk hcg
  have HCX := Aside0.mk hcx
  have t1 : w1.cell? ⟨g, 1, none⟩ = some (.slice Av l.length cv) := blk_cell hcg 1
  have f1 : w1.frozen? ⟨g, 1, none⟩ = false := blk_frozen hcg 1
  have t3 : w1.cell? ⟨w.heap.size, 0, none⟩ = some (.int .i64 x0) := blk_cell hcx 0
  have t4 : w1.cell? ⟨w.heap.size, 1, none⟩ = some (.string x1) := blk_cell hcx 1
  have t5 : w1.cell? ⟨w.heap.size, 2, none⟩ = some (.string x2) := blk_cell hcx 2
  clear ho hb hg hat hcg hcx
  refine hK.out _ _ ⟨t1, t3, t4, t5⟩ (fun hHeld => ?_)
  clear hK K
  refine norm_ (a' := ?_) ?_ ?_
  rotate_left
  · show Act.put _ (some 43) _ = _
    simp only [Act.put, List.setIfInBounds_toArray, List.set_cons_zero, List.set_cons_succ, i64_w, i32_w]
    rfl
  refine pure_ (i := 8) (N := some 44) (v := ?_) (a' := ?_) #[true, true, true, true, true, true, true, true, true, false, false] rfl rfl (by kernel_rfl) (fun _ _ _ h => h) (Or.inl ⟨by rfl, ?_⟩) ?_ ?_
  rotate_left
  · intro w'
    go_simp
    with_reducible rfl
  rotate_left
  · simp only [Act.put, List.setIfInBounds_toArray, List.set_cons_zero, List.set_cons_succ, i64_w, i32_w]
    rfl
  refine pure_ (i := 9) (N := some 45) (v := ?_) (a' := ?_) #[true, true, true, true, true, true, true, true, true, true, false] rfl rfl (by kernel_rfl) (fun _ _ _ h => h) (Or.inl ⟨by rfl, ?_⟩) ?_ ?_
  rotate_left
  · intro w'
    go_simp
    with_reducible rfl
  rotate_left
  · simp only [Act.put, List.setIfInBounds_toArray, List.set_cons_zero, List.set_cons_succ, i64_w, i32_w]
    rfl
  refine last_ (i := 10) (N := none) #[true, true, true, true, true, true, true, true, true, true, true] rfl rfl (by kernel_rfl) (by decide) (fun K hK => ?_)
  refine skip_ (w1 := ?_) (by rfl) rfl ?_ ?_
  rotate_left
  · go_simp
    rfl
  generalize hW5 : w1.setCell _ _ = w5
  have HW5 := Aside0.mk hW5
  clear hW5
  refine hK.out _ _ ?_
  clear hK K
  refine done_ (by kernel_rfl) ?_
  have ibg := HH0.out.base_le
  have hc5 : w5.heap[g]? = some (.cells #[.bool true, .slice (some ⟨b2, 0, none⟩) (l.length + 1) c2, .int .i64 ((12 + totN l : Nat) : Int)] 49 (0, 0)) := by rw [← HW5.out]; exact blk_put (cs := #[.bool true, .slice Av l.length cv, .int .i64 ((12 + totN l : Nat) : Int)]) HCG.out 1 _ rfl
  have hx5 : w5.heap[w.heap.size]? = some (.cells #[.int .i64 x0, .string x1, .string x2] 65 (0, 0)) := by rw [← HW5.out]; exact (Below.heap_setCell _ ⟨g, 1, none⟩ _ _ (Ne.symm hgne)).trans HCX.out
  have HC5 := Aside0.mk hc5
  have HX5 := Aside0.mk hx5
  have p2 : w5.cell? ⟨g, 2, none⟩ = some (.int .i64 (z : Int)) := by rw [← HZ.out]; exact blk_cell hc5 2
  have p3 : w5.cell? ⟨w.heap.size, 0, none⟩ = some (.int .i64 x0) := blk_cell hx5 0
  have p4 : w5.cell? ⟨w.heap.size, 1, none⟩ = some (.string x1) := blk_cell hx5 1
  have p5 : w5.cell? ⟨w.heap.size, 2, none⟩ = some (.string x2) := blk_cell hx5 2
  have HR5 := Aside0.mk (show Kd.R k65 65 w5 base (fun _ => True) (.slice (some ⟨b2, 0, none⟩) (l ++ [(⟨x0, x1, x2⟩ : Op04)]).length c2) (l ++ [⟨x0, x1, x2⟩]) by rw [← HW5.out]; exact Kd.R_set HR1.out HCG.out (by decide) 1 _)
  have HB5 := Aside0.mk (show Below base w w5 by rw [← HW5.out]; exact HB1'.out.setCell ibg _)
  have HBK := Aside0.mk (show ∀ k, k < w.heap.size → k ≠ g → some k ≠ (Value.slice Av l.length cv).ownBlock → w5.heap[k]? = w.heap[k]? by
    intro k hk hkg hkv
    have hka := (below_step HB2.out HBA.out).block k hk
    have hk2 : k < wa.drew.heap.size := Nat.lt_of_lt_of_le hk (below_step HB2.out HBA.out).size
    rw [← HW5.out]
    exact (Below.heap_setCell _ ⟨g, 1, none⟩ _ k hkg).trans ((HG1.out.block k hk2 hkv).trans hka))
  have HAT2 := Aside0.mk (show (Value.slice (some ⟨b2, 0, none⟩) (l ++ [(⟨x0, x1, x2⟩ : Op04)]).length c2).ownBlock = (Value.slice Av l.length cv).ownBlock ∨ ∃ b, (Value.slice (some ⟨b2, 0, none⟩) (l ++ [(⟨x0, x1, x2⟩ : Op04)]).length c2).ownBlock = some b ∧ w.heap.size ≤ b from HAT.out.imp id fun ⟨b, h1, h2⟩ => ⟨b, h1, Nat.le_trans (below_step HB2.out HBA.out).size h2⟩)
  clear hc5 hx5 t1 t3 t4 t5 f1 hHeld
  go_wp2_with fail
  refine start_ (n := 10) (S := fun w' => w'.cell? ⟨g, 2, none⟩ = some (.int .i64 (z : Int)) ∧ w'.cell? ⟨w.heap.size, 0, none⟩ = some (.int .i64 x0) ∧ w'.cell? ⟨w.heap.size, 1, none⟩ = some (.string x1) ∧ w'.cell? ⟨w.heap.size, 2, none⟩ = some (.string x2)) (ds := [9]) #[false, false, false, false, false, false, false, false, false, false] (by kernel_rfl) rfl rfl ⟨p2, p3, p4, p5⟩ (fun hHeld => ?_)
  refine pure_ (i := 0) (N := some 46) (v := ?_) (a' := ?_) #[true, false, false, false, false, false, false, false, false, false] rfl rfl (by kernel_rfl) (fun _ _ _ h => h) (Or.inl ⟨by rfl, ?_⟩) ?_ ?_
  rotate_left
  · intro w'
    go_simp
    with_reducible rfl
  rotate_left
  · simp only [Act.put, List.setIfInBounds_toArray, List.set_cons_zero, List.set_cons_succ, i64_w, i32_w]
    rfl
  refine pure_ (i := 1) (N := some 47) (v := ?_) (a' := ?_) #[true, true, false, false, false, false, false, false, false, false] rfl rfl (by kernel_rfl) (fun _ _ _ h => h) (Or.inl ⟨by rfl, ?_⟩) ?_ ?_
  rotate_left
  · intro w'
    go_simp
    with_reducible rfl
  rotate_left
  · simp only [Act.put, List.setIfInBounds_toArray, List.set_cons_zero, List.set_cons_succ, i64_w, i32_w]
    rfl
  refine pure_ (i := 2) (N := some 48) (v := ?_) (a' := ?_) #[true, true, true, false, false, false, false, false, false, false] rfl rfl (by kernel_rfl) (fun _ _ _ h => h) (Or.inl ⟨by rfl, ?_⟩) ?_ ?_
  rotate_left
  · intro w'
    go_simp
    with_reducible rfl
  rotate_left
  · simp only [Act.put, List.setIfInBounds_toArray, List.set_cons_zero, List.set_cons_succ, i64_w, i32_w]
    rfl
  refine take_ (i := 3) (N := some 49) (v := ?_) (a' := ?_) #[true, true, true, true, false, false, false, false, false, false] rfl rfl (by kernel_rfl) (fun _ _ _ h => h) (Or.inl ⟨by rfl, ?_⟩) hHeld ?_ ?_
  rotate_left
  · rintro w' ⟨s0, s1, s2, s3⟩
    go_simp
    with_reducible rfl
  rotate_left
  · simp only [Act.put, List.setIfInBounds_toArray, List.set_cons_zero, List.set_cons_succ, i64_w, i32_w]
    rfl
  refine take_ (i := 4) (N := some 50) (v := ?_) (a' := ?_) #[true, true, true, true, true, false, false, false, false, false] rfl rfl (by kernel_rfl) (fun _ _ _ h => h) (Or.inl ⟨by rfl, ?_⟩) hHeld ?_ ?_
  rotate_left
  · rintro w' ⟨s0, s1, s2, s3⟩
    go_simp
    with_reducible rfl
  rotate_left
  · simp only [Act.put, List.setIfInBounds_toArray, List.set_cons_zero, List.set_cons_succ, i64_w, i32_w]
    rfl
  refine one_ (i := 5) (N := some 51) #[true, true, true, true, true, true, false, false, false, false] rfl rfl (by kernel_rfl) (by decide) (fun K hK => ?_)
  refine goes_ Try.func70 (by kernel_rfl) rfl #[.agg #[.int .i64 x0, .string x1, .string x2]] (by rfl) rfl rfl (by simp only [List.map_toArray, List.map_cons, List.map_nil]; rfl) ?_
  with_reducible refine (HSZ.out _).mono ?_
  rintro e w6 ⟨rfl, hb⟩
  refine ⟨_, rfl, ?_⟩
  have HB6 := Aside0.mk (show Below w5.heap.size w5 w6 from below_step (below_drew1 (Below.refl _ _)) hb)
  have o2 := pw_cell_below HB6.out p2
  have o3 := pw_cell_below HB6.out p3
  have o4 := pw_cell_below HB6.out p4
  have o5 := pw_cell_below HB6.out p5
  have HC6 := Aside0.mk (blk_below HC5.out HB6.out)
  have f2 : w6.frozen? ⟨g, 2, none⟩ = false := blk_frozen HC6.out 2
  clear hb
  refine hK.out _ _ ⟨o2, o3, o4, o5⟩ (fun hHeld => ?_)
  clear hK K
  refine norm_ (a' := ?_) ?_ ?_
  rotate_left
  · show Act.put _ (some 51) _ = _
    simp only [Act.put, List.setIfInBounds_toArray, List.set_cons_zero, List.set_cons_succ, i64_w, i32_w]
    rfl
  refine pure_ (i := 6) (N := some 52) (v := ?_) (a' := ?_) #[true, true, true, true, true, true, true, false, false, false] rfl rfl (by kernel_rfl) (fun _ _ _ h => h) (Or.inl ⟨by rfl, ?_⟩) ?_ ?_
  rotate_left
  · intro w'
    go_simp
    with_reducible rfl
  rotate_left
  · simp only [Act.put, List.setIfInBounds_toArray, List.set_cons_zero, List.set_cons_succ, i64_w, i32_w]
    rfl
  refine pure_ (i := 7) (N := some 53) (v := ?_) (a' := ?_) #[true, true, true, true, true, true, true, true, false, false] rfl rfl (by kernel_rfl) (fun _ _ _ h => h) (Or.inl ⟨by rfl, ?_⟩) ?_ ?_
  rotate_left
  · intro w'
    go_simp
    with_reducible rfl
  rotate_left
  · simp only [Act.put, List.setIfInBounds_toArray, List.set_cons_zero, List.set_cons_succ, i64_w, i32_w]
    rfl
  refine pure_ (i := 8) (N := some 54) (v := ?_) (a' := ?_) #[true, true, true, true, true, true, true, true, true, false] rfl rfl (by kernel_rfl) (fun _ _ _ h => h) (Or.inl ⟨by rfl, ?_⟩) ?_ ?_
  rotate_left
  · intro w'
    go_simp
    with_reducible rfl
  rotate_left
  · simp only [Act.put, List.setIfInBounds_toArray, List.set_cons_zero, List.set_cons_succ, i64_w, i32_w]
    rfl
  refine last_ (i := 9) (N := none) #[true, true, true, true, true, true, true, true, true, true] rfl rfl (by kernel_rfl) (by decide) (fun K hK => ?_)
  refine skip_ (w1 := ?_) (by rfl) rfl ?_ ?_
  rotate_left
  · go_simp
    rfl
  generalize hW7 : w6.setCell _ _ = w7
  have HW7 := Aside0.mk hW7
  clear hW7
  refine hK.out _ _ ?_
  clear hK K
  refine done_ (by kernel_rfl) ?_
  go_wp2
  go_ret
  have hl2 : (l ++ [(⟨x0, x1, x2⟩ : Op04)]).length = l.length + 1 := by simp
  have hw7 := HW7.out
  rw [HWZ.out] at hw7
  have hz7 : z + s = 12 + totN (l ++ [(⟨x0, x1, x2⟩ : Op04)]) := by rw [totN_snoc, ← HZ.out, ← HS.out, Nat.add_assoc]
  rw [hz7] at hw7
  have hc7 : w7.heap[g]? = some (.cells #[.bool true, .slice (some ⟨b2, 0, none⟩) (l ++ [(⟨x0, x1, x2⟩ : Op04)]).length c2, .int .i64 ((12 + totN (l ++ [(⟨x0, x1, x2⟩ : Op04)]) : Nat) : Int)] 49 (0, 0)) := by rw [← hw7, hl2]; exact blk_put (cs := #[.bool true, .slice (some ⟨b2, 0, none⟩) (l.length + 1) c2, .int .i64 ((12 + totN l : Nat) : Int)]) HC6.out 2 _ rfl
  have hr7 : Kd.R k65 65 w7 base (fun _ => True) (.slice (some ⟨b2, 0, none⟩) (l ++ [(⟨x0, x1, x2⟩ : Op04)]).length c2) (l ++ [⟨x0, x1, x2⟩]) := by rw [← hw7]; exact Kd.R_set (Kd.R_below HR5.out HB6.out) HC6.out (by decide) 2 _
  have hb7 : Below base w w7 := by rw [← hw7]; exact (HB5.out.trans (HB6.out.mono (Nat.le_trans HBW.out HB5.out.size))).setCell ibg _
  refine ⟨_, rfl, ⟨hc7, hr7, ibg⟩, hb7.os, hb7.tape, hb7.output, hb7.size, fun k hk hkg hkv => ?_, HAT2.out.imp id .inr⟩
  rw [← hw7]
  exact (Below.heap_setCell _ ⟨g, 2, none⟩ _ k hkg).trans ((HB6.out.block k (Nat.lt_of_lt_of_le hk HB5.out.size)).trans (HBK.out k hk hkg hkv))
/-- add, told in one -/
theorem bu_add (w : World) (g base : Nat) (v : Value) (l : List Op04) (x : Op04) (h : BuAt w g base v l) (ht : 12 + totN l ≤ 1048576) (hbw : base ≤ w.heap.size) : Calls Try.prog 62 #[.pointer (some ⟨g, 0, none⟩), .agg #[.int .i64 x.f0, .string x.f1, .string x.f2]] w fun e w' => ∃ v', e = .returned (.int .i64 (addE l x)) ∧ BuAt w' g base v' (addL l x) ∧ BuCh w w' g v v' := by
  unfold addL addE
  by_cases hm : mayB x = true
  · rw [if_pos hm]
    by_cases hn : 4096 ≤ l.length
    · rw [if_pos (.inl hn), if_neg (by decide)]
      exact (bu_add_big w g base v l x h hm hn).mono fun e w' ⟨h1, h2⟩ => ⟨v, h1, h.below h2, BuCh.of_below g v h2⟩
    · by_cases hf : 1048576 < 12 + totN l + szN x
      · rw [if_pos (.inr hf), if_neg (by decide)]
        exact (bu_add_full w g base v l x h ht hm (by omega) hf).mono fun e w' ⟨h1, h2⟩ => ⟨v, h1, h.below h2, BuCh.of_below g v h2⟩
      · rw [if_neg (by rintro (q | q); exact hn q; exact hf q), if_pos rfl]
        exact bu_add_ok w g base v l x h ht hm (by omega) (by omega) hbw
  · rw [if_neg hm, if_neg (by decide)]
    exact (bu_add_no w g base v l x h (by simpa using hm)).mono fun e w' ⟨h1, h2⟩ => ⟨v, h1, h.below h2, BuCh.of_below g v h2⟩
theorem addL_fit (l : List Op04) (x : Op04) (h : 12 + totN l ≤ 1048576 ∧ l.length ≤ 4096) : 12 + totN (addL l x) ≤ 1048576 ∧ (addL l x).length ≤ 4096 := by
  unfold addL addE
  by_cases hm : mayB x = true
  · rw [if_pos hm]
    by_cases hc : 4096 ≤ l.length ∨ 1048576 < 12 + totN l + szN x
    · rw [if_pos hc, if_neg (by decide)]; exact h
    · rw [if_neg hc, if_pos rfl, totN_snoc, List.length_append]
      refine ⟨?_, ?_⟩
      · have : ¬ 1048576 < 12 + totN l + szN x := fun q => hc (.inr q)
        omega
      · have : ¬ 4096 ≤ l.length := fun q => hc (.inl q)
        simp only [List.length_cons, List.length_nil]
        omega
  · rw [if_neg hm, if_neg (by decide)]; exact h
set_option maxHeartbeats 4000000 in
theorem bu_put (w : World) (g base : Nat) (v : Value) (l : List Op04) (key : ByteArray) (val : ByteArray) (h : BuAt w g base v l) (ht : 12 + totN l ≤ 1048576) (hbw : base ≤ w.heap.size) : Calls Try.prog 29 #[.pointer (some ⟨g, 0, none⟩), .string key, .string val] w fun e w' => ∃ v', e = .returned (.int .i64 (addE l ⟨1, key, val⟩)) ∧ BuAt w' g base v' (addL l ⟨1, key, val⟩) ∧ BuCh w w' g v v' := by
  have HA := Aside0.mk (bu_add w g base v l ⟨1, key, val⟩ h ht hbw)
  clear h ht hbw
  go_enter Try.func29, Try.ntmps29
  go_wp2_with fail
  (with_reducible refine HA.out.mono ?_)
  rintro e w1 ⟨v', rfl, h1, h2⟩
  have H1 := Aside0.mk h1
  have H2 := Aside0.mk h2
  clear h1 h2
  go_wp2
  go_ret
  exact ⟨v', rfl, H1.out, H2.out⟩
set_option maxHeartbeats 4000000 in
theorem bu_delete (w : World) (g base : Nat) (v : Value) (l : List Op04) (key : ByteArray) (h : BuAt w g base v l) (ht : 12 + totN l ≤ 1048576) (hbw : base ≤ w.heap.size) : Calls Try.prog 30 #[.pointer (some ⟨g, 0, none⟩), .string key] w fun e w' => ∃ v', e = .returned (.int .i64 (addE l ⟨0, key, ⟨#[]⟩⟩)) ∧ BuAt w' g base v' (addL l ⟨0, key, ⟨#[]⟩⟩) ∧ BuCh w w' g v v' := by
  have HA := Aside0.mk (bu_add w g base v l ⟨0, key, ⟨#[]⟩⟩ h ht hbw)
  clear h ht hbw
  go_enter Try.func30, Try.ntmps30
  go_wp2_with fail
  (with_reducible refine HA.out.mono ?_)
  rintro e w1 ⟨v', rfl, h1, h2⟩
  have H1 := Aside0.mk h1
  have H2 := Aside0.mk h2
  clear h1 h2
  go_wp2
  go_ret
  exact ⟨v', rfl, H1.out, H2.out⟩
set_option maxHeartbeats 4000000 in
theorem bu_range (w : World) (g base : Nat) (v : Value) (l : List Op04) (key : ByteArray) (val : ByteArray) (h : BuAt w g base v l) (ht : 12 + totN l ≤ 1048576) (hbw : base ≤ w.heap.size) : Calls Try.prog 31 #[.pointer (some ⟨g, 0, none⟩), .string key, .string val] w fun e w' => ∃ v', e = .returned (.int .i64 (addE l ⟨2, key, val⟩)) ∧ BuAt w' g base v' (addL l ⟨2, key, val⟩) ∧ BuCh w w' g v v' := by
  have HA := Aside0.mk (bu_add w g base v l ⟨2, key, val⟩ h ht hbw)
  clear h ht hbw
  go_enter Try.func31, Try.ntmps31
  go_wp2_with fail
  (with_reducible refine HA.out.mono ?_)
  rintro e w1 ⟨v', rfl, h1, h2⟩
  have H1 := Aside0.mk h1
  have H2 := Aside0.mk h2
  clear h1 h2
  go_wp2
  go_ret
  exact ⟨v', rfl, H1.out, H2.out⟩

end Go.Proofs.Ythkooncibfkepaa.G

/- Printed by the session's program over the kit's print, out of the translation: functions as plain Lean functions, and the proofs that the calls come to them. -/
namespace Go.Proofs.Ythkooncibfkepaa.G
open Go.RowKit Go.Proofs.YthkooncibfkepaaW.PrintWords Go.Proofs.YthkooncibfkepaaW.PrintLast Go.Proofs.YthkooncibfkepaaW.PrintMore
attribute [local go_sem] max2_int min2_int max_two min_two max_three min_three max_four min_four   -- for this text's walks alone
set_option linter.unusedVariables false
set_option linter.unusedSimpArgs false

theorem eqA65 (d : Nat) (w : World) (x0 y0 : Int) (x1 y1 : ByteArray) (x2 y2 : ByteArray) :
    (Op.equalIn (d + 2) 65 (.agg #[.int .i64 x0, .string x1, .string x2]) (.agg #[.int .i64 y0, .string y1, .string y2])).run Try.prog w = .ok (x0 == y0 && (x1.toList == y1.toList && (x2.toList == y2.toList))) w := by
  refine eqA_of Try.underlying65 (by kernel_rfl) ?_
  refine eqf_cons (by rfl) (by go_simp; rfl) (by go_simp; rfl) (by go_simp) ?_
  refine eqf_cons (by rfl) (by go_simp; rfl) (by go_simp; rfl) (by go_simp) ?_
  exact eqf_last (by rfl) (by go_simp; rfl) (by go_simp; rfl) (by go_simp)
end Go.Proofs.Ythkooncibfkepaa.G
