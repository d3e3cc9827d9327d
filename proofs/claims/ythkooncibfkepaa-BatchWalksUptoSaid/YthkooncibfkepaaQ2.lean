/- Contracts of functions and plain laws, several texts of the session put together by its program. -/
import Derived.Test.YthkooncibfkepaaProg
import Derived.Below
import Derived.Deep.Draws
import Derived.Deep.AppendLies
import Derived.Maps.AppendAt
import Derived.OwnWalk
import Derived.Laws.BytesArg
import Derived.Laws.MakeOwn
import Derived.Laws.OwnMore
import Derived.Deep.OwnRows
import Derived.Tactics
import Derived.Lib.ConvBytes
import Derived.Laws.Slices
import Derived.WalkKit
import Derived.KernelRfl
import Derived.RowKit3
import Derived.Deep.LoopGhost
import Derived.Deep.QuietTactic
import Derived.BigQuiet
import Derived.WideLaws
import Derived.Deep.DeepCutAuto
import Derived.Deep.CutBlock
import Derived.Deep.RegionHeld3
import Derived.Laws.Rows
import Derived.Lib.AppendStr
import Derived.ArgAppend
import Derived.Laws.IdiomCopy
import Derived.OrdersHeld
import Derived.Laws.BitsLemmas
import Derived.RowKit
import Derived.Test.YthkooncibfkepaaWWords
import Derived.Test.YthkooncibfkepaaWLast
import Derived.Test.YthkooncibfkepaaWTab
import Derived.Test.YthkooncibfkepaaWFour
import Derived.Test.YthkooncibfkepaaWQPut
import Derived.Test.YthkooncibfkepaaWApart
import Derived.Test.YthkooncibfkepaaWArr
import Derived.Test.YthkooncibfkepaaWZeros
import Derived.Test.YthkooncibfkepaaWFoot
import Derived.Test.YthkooncibfkepaaWKept
import Derived.Test.YthkooncibfkepaaWShare
import Derived.Test.YthkooncibfkepaaWN
import Derived.Test.YthkooncibfkepaaWFootNe
import Derived.Test.YthkooncibfkepaaWAt
import Derived.Test.YthkooncibfkepaaWEqStruct
import Derived.Test.YthkooncibfkepaaWRepsOne
import Derived.Test.YthkooncibfkepaaWInv
import Derived.Test.YthkooncibfkepaaWInvWords
import Derived.Test.YthkooncibfkepaaWGuard
import Derived.Test.YthkooncibfkepaaWNEv
import Derived.Test.YthkooncibfkepaaWMore
import Derived.Test.YthkooncibfkepaaQ1
import Derived.BigRegionIn
import Derived.RangeFuncNested
import Derived.RangeFuncBound
import Derived.RangeFuncCalls
import Derived.RangeFuncLeaves
import Derived.RangeFuncBox
import Derived.RangeFuncRecord
import Derived.Shelf.Abstract
import Derived.OwnWalkIn
import Derived.TacticsInMore
import Derived.LoopNIn
import Derived.LoopIn
import Derived.Sort.QuietIn
import Derived.Test.YthkooncibfkepaaQ0

/- Contracts typed by hand: batch.Decode: a batch of bytes, by a range over batch.all -/
namespace Go.Proofs.Ythkooncibfkepaa.G
open Go.RowKit Go.Proofs.YthkooncibfkepaaW.PrintWords Go.Proofs.YthkooncibfkepaaW.PrintLast Go.Proofs.YthkooncibfkepaaW.PrintMore
attribute [local go_sem] max2_int min2_int max_two min_two max_three min_three max_four min_four
set_option linter.unusedVariables false
set_option linter.unusedSimpArgs false

/-! batch.Decode: a batch of bytes, by a range over batch.all -/
open Go.Shelf
attribute [local go_sem] Oper.semAt_some
def opsCells (l : List Op04) : List Value := l.flatMap fun x => [.int .i64 x.f0, .string x.f1, .string x.f2]
theorem opsCells_snoc (l : List Op04) (x : Op04) : opsCells (l ++ [x]) = opsCells l ++ [.int .i64 x.f0, .string x.f1, .string x.f2] := by simp [opsCells]
theorem opsCells_reps (w : World) (b : Nat) (ok : Nat → Prop) : ∀ (l : List Op04), Reps (k65.M w b ok) 3 l (opsCells l)
  | [] => Reps.none _ _
  | x :: r => by
    have ih := opsCells_reps w b ok r
    exact Reps.c3 (k65_mkM w b ok x) ih
theorem R_of_ops {w : World} {base : Nat} {v : Value} {l : List Op04} (h : w.ownsRow base 65 3 v l.length (opsCells l)) : Kd.R k65 65 w base (fun _ => True) v l := ⟨fun _ _ => trivial, opsCells l, h, opsCells_reps _ _ _ l⟩
def lastEnd (l : List Gone) : Int := match l.getLast? with | some g => g.2.2 | none => 12
theorem lastEnd_snoc (l : List Gone) (g : Gone) : lastEnd (l ++ [g]) = g.2.2 := by simp [lastEnd]
def opsOf04 (l : List Gone) : List Op04 := l.map (fun g => g.2.1)
theorem opsOf_snoc (l : List Gone) (g : Gone) : opsOf04 (l ++ [g]) = opsOf04 l ++ [g.2.1] := by simp [opsOf04]
theorem opsOf_len (l : List Gone) : (opsOf04 l).length = l.length := by simp [opsOf04]
/-- what Decode answers -/
def decB (b : List Int) : Int × List Op04 × Int :=
  if b.length < 12 then (0, [], 41) else
  if (chk (opsOf04 (goneL b))).2 = 0 ∧ ((goneL b).length : Int) = le (seg b 8 4) ∧ lastEnd (goneL b) = (b.length : Int) ∧ fitB (le (seg b 0 8)) (le (seg b 8 4)).toNat = true then (le (seg b 0 8), opsOf04 (goneL b), 0) else (0, [], 41)
theorem kpS_putObj (n₀ : Nat) (S : Nat → Prop) (W : World) (l : Nat) (o' : Obj) (h : n₀ ≤ l) : KpS n₀ S W (W.putObj l o') :=
  ⟨(grownBy_putObj' W l o').size, fun k hk _ => World.putObj_heap_other (by omega)⟩
theorem all_stops (n₀ Bn : Nat) (S : Nat → Prop) (A : Option Addr) (c : Nat) (b : List Int) (w : World) (hb : Bytes b) (hlen : b.length ≤ 1099511627776) (hc : b.length ≤ c) (hn : n₀ ≤ w.heap.size)
    (hread : ∀ W', KpS n₀ S w W' → Kd.C (Kd.int .u8) W' A b.length b ∧ W'.cell? ⟨Bn, 0, none⟩ = some (.slice A b.length c)) :
    SeqStopsK Fence.wide 2 Try.prog 76 #[.pointer (some ⟨Bn, 0, none⟩)] encG (KpS n₀ S) (fun ys => ys = goneL b) (fun pre => pre <+: goneL b) (goneL b).length w := fun l J Jx W hW hJ _ hY h0 =>
  all1_in l n₀ Bn S A c b hb hlen hc J Jx W (Nat.le_trans hn hW.size) (fun W' hK => hread W' (((KpS.refl n₀ S w).below hn hW).trans hK))
    (fun pre W1 W2 hs hb2 => hJ pre W1 W2 none hs (grown_of_below hb2 none) (fun r e => by cases e)) hY h0
theorem boxed_own (B : Nat) (t : TypeId) (v : Value) : Own (fun (_ : Unit) W => Boxed W B t v) := fun s X Y row h hg hrow => h.kept hg (fun e' => by
  obtain ⟨o, ho, hc⟩ := hrow B e'.symm
  rw [show X.heap[B]? = _ from h] at ho; cases ho; cases hc)
theorem cells_own (B : Nat) (cs : Array Value) (t : TypeId) : ∀ (X Y : World) (row : Option Nat), X.heap[B]? = some (.cells cs t (0, 0)) → X.grownBy Y row → (∀ r, row = some r → ∃ o : Obj, X.heap[r]? = some o ∧ o.isCells = false) → Y.heap[B]? = some (.cells cs t (0, 0)) := fun X Y row h hg hrow =>
  (hg.block B (blk_lt h) (fun e' => by
    obtain ⟨o, ho, hc⟩ := hrow B e'.symm
    rw [h] at ho; cases ho; cases hc)).trans h
theorem row_own {n₀ : Nat} {e : TypeId} {size k : Nat} {v : Value} {xs : List Value} : ∀ (X Y : World) (row : Option Nat), X.ownsRow n₀ e size v k xs → X.grownBy Y row → (∀ r, row = some r → ∃ o : Obj, X.heap[r]? = some o ∧ o.isCells = false) → Y.ownsRow n₀ e size v k xs := by
  intro X Y row hr hg hrow
  refine hr.kept hg ?_
  rcases hr.2 with ⟨rfl, _⟩ | ⟨g, cap, cur, rfl, _, hgb, _⟩
  · exact .inl rfl
  · refine .inr fun e' => ?_
    obtain ⟨o, ho, hc⟩ := hrow g (by simpa [Value.ownBlock] using e'.symm)
    rw [hgb] at ho; cases ho; cases hc
theorem results_tct {P : Program} {fn : Func} {u p v : Tmp} {ty e : TypeId} (h : fn.results = #[.tmp u, .cell p ty, .tmp v]) (tmps : Array Value) (w : World) (g : Nat) (x : Value)
    (hp : tmps.getD p undef = .pointer (some ⟨g, 0, none⟩)) (hg : w.cell? ⟨g, 0, none⟩ = some x) (hu : P.underlying ty = some (.slice e)) :
    (results fn tmps).run P w = .ok (.tuple #[tmps.getD u undef, x, tmps.getD v undef]) w := by
  have hp' : tmps[p]?.getD undef = .pointer (some ⟨g, 0, none⟩) := by simpa using hp
  simp [results, h, hp', asAddr, loadVar, isAgg, run_underlying hu, hg, go_sem]
theorem dec_end (w X : World) (D : Nat) (v : Value) (L : List Op04) (tmps : Array Value) (s z : Int) (hV : Boxed X w.heap.size 22 v) (hrow : X.ownsRow w.heap.size 65 3 v L.length (opsCells L)) (hb : Below w.heap.size w X)
    (hK : X.heap[D]? = some (.deferred (some []))) (hD : w.heap.size + 3 ≤ D) (t2 : tmps.getD 2 undef = .int .u64 s) (t3 : tmps.getD 3 undef = .pointer (some ⟨w.heap.size, 0, none⟩)) (t4 : tmps.getD 4 undef = .int .i64 z) :
    bodyPostM Fence.wide 3 Try.prog Try.f33 (fun e w' => ∃ v0_ : Value, e = .returned (.tuple #[.int .u64 s, v0_, .int .i64 z]) ∧ Kd.R k65 65 w' w.heap.size (fun _ => True) v0_ L ∧ Below w.heap.size w w') Exit.ret { tmps := tmps, defers := [{ target := .collected D, args := #[] }] } X := by
  refine ⟨by simp, .inl ⟨_, _, rfl, run_takeDeferred hK, ?_⟩⟩
  refine ⟨_, results_tct rfl _ _ w.heap.size v t3 (hV.kept (grownBy_putObj' X D _) (by simp; omega)).cell Try.underlying22, v, ?_, R_of_ops (ownsRow_putObj hrow _ hK rfl), hb.trans (belowK_b (w := w) (Nat.le_refl _) X D _ _ (by omega) hK rfl rfl)⟩
  rw [t2, t4]
/-- what holds of the two variables that the rounds write -/
def DecI (w : World) (n₀ : Nat) (pre : List Gone) (W : World) : Prop :=
  (∃ v, Boxed W w.heap.size 22 v ∧ W.ownsRow n₀ 65 3 v pre.length (opsCells (opsOf04 pre))) ∧ Boxed W (w.heap.size + 1) 3 (.int .i64 (lastEnd pre)) ∧ Below w.heap.size w W ∧ n₀ ≤ W.heap.size
theorem decI_own (w : World) (n₀ B : Nat) (hB : w.heap.size ≤ B) : OwnFrom B (DecI w n₀) := by
  rintro pre X Y row ⟨⟨v, h1, h2⟩, h3, h4, h5⟩ hg hr
  have hr' : ∀ r, row = some r → ∃ o : Obj, X.heap[r]? = some o ∧ o.isCells = false := fun r e => (hr r e).2
  exact ⟨⟨v, cells_own _ _ _ X Y row h1 hg hr', row_own X Y row h2 hg hr'⟩, cells_own _ _ _ X Y row h3 hg hr', h4.grown hg h4.size (fun k e => by have := (hr k e).1; omega), Nat.le_trans h5 hg.size⟩
def goneCells (g : Gone) : Array Value := #[.int .u64 g.1, .int .i64 g.2.1.f0, .string g.2.1.f1, .string g.2.1.f2, .int .i64 g.2.2]
/-- what lies below, os and tape apart, keeps what is read -/
theorem C_of_heap {w W : World} {A : Option Addr} {b : List Int} (h : Kd.C (Kd.int .u8) w A b.length b) (hs : w.heap.size ≤ W.heap.size) (hk : ∀ k, k < w.heap.size → W.heap[k]? = w.heap[k]?) : Kd.C (Kd.int .u8) W A b.length b :=
  (Kd.C_below (w1 := { W with os := w.os, tape := w.tape, output := w.output }) h ⟨rfl, rfl, rfl, hs, hk⟩ : Kd.C (Kd.int .u8) { W with os := w.os, tape := w.tape, output := w.output } A b.length b)
theorem gos_len (l : List Int) (seq : Int) : ∀ (d i : Nat) (p : Int), Bytes l → l.length ≤ 1099511627776 → 0 ≤ p → p ≤ l.length → p + ((gos l seq d i p).length : Int) ≤ l.length
  | 0, _, p, _, _, _, h => by simp [gos]; omega
  | d + 1, i, p, hb, hl, h0, h => by
    unfold gos
    split
    · rename_i hr
      have h1 := rdR_next l hb hl p hr
      have h2 := gos_len l seq d (i + 1) (rdR l p).2.1 hb hl h1.1 h1.2.2
      rw [List.length_cons]
      push_cast
      omega
    · simp; omega
theorem goneL_len (l : List Int) (hb : Bytes l) (hl : l.length ≤ 1099511627776) : (goneL l).length ≤ l.length := by
  unfold goneL
  split
  · simp
  · have := gos_len l (le (seg l 0 8)) (le (seg l 8 4)).toNat 0 12 hb hl (by omega) (by omega)
    omega
theorem txt_size (l : List Int) (p : Int) (hb : Bytes l) (hl : l.length ≤ 1099511627776) : (txt l p).1.size ≤ l.length := by
  obtain ⟨v, n, e, hv, h⟩ := varint_some l p hb (by omega)
  unfold txt codec_Text.f
  rw [hv, Option.bind_some]
  rcases h with ⟨rfl, v0, v1, p0, n0, n1⟩ | ⟨he, e0, e1, rfl, rfl⟩
  · simp only [if_true]
    rw [if_pos v0, if_pos (by omega), if_pos n1, if_pos (by omega)]
    by_cases h2 : v > (l.length : Int) - n
    · rw [if_pos h2]; simp
    · rw [if_neg h2]
      show (strOfNums _).size ≤ _
      unfold strOfNums
      simp [ByteArray.size, List.length_take, List.length_drop]
      omega
  · simp only []
    rw [if_neg he]
    simp
theorem rdR_size (l : List Int) (p : Int) (hb : Bytes l) (hl : l.length ≤ 1048576) : (rdR l p).1.f1.size ≤ 1048576 ∧ (rdR l p).1.f2.size ≤ 1048576 := by
  have h1 := txt_size l (p + 1) hb (by omega)
  have h2 := txt_size l (txt l (p + 1)).2.1 hb (by omega)
  have h3 : (⟨#[]⟩ : ByteArray).size = 0 := rfl
  unfold rdR
  repeat' split
  all_goals (refine ⟨?_, ?_⟩ <;> simp only [] <;> omega)
theorem gos_sane (l : List Int) (seq : Int) (hb : Bytes l) (hl : l.length ≤ 1048576) : ∀ (d i : Nat) (p : Int), ∀ g ∈ gos l seq d i p, g.2.1.f1.size ≤ 1048576 ∧ g.2.1.f2.size ≤ 1048576
  | 0, _, _, g, h => by simp [gos] at h
  | d + 1, i, p, g, h => by
    unfold gos at h
    split at h
    · rcases List.mem_cons.1 h with rfl | h
      · exact rdR_size l p hb hl
      · exact gos_sane l seq hb hl d (i + 1) _ g h
    · simp at h
theorem sane_gone (l : List Int) (hb : Bytes l) (hl : l.length ≤ 1048576) : Sane (opsOf04 (goneL l)) := by
  have hn := goneL_len l hb (by omega)
  refine ⟨by rw [opsOf_len]; omega, ?_⟩
  intro x hx
  unfold opsOf04 at hx
  obtain ⟨g, hg, rfl⟩ := List.mem_map.1 hx
  unfold goneL at hg
  split at hg
  · simp at hg
  · exact gos_sane l _ hb hl _ _ _ g hg
theorem cells3_new (W : World) (x y z : Value) (t : TypeId) : ∀ (j : Nat) (u : Value), [x, y, z][j]? = some u → (W.alloc (.cells #[x, y, z] t)).cell? ((⟨W.heap.size, 0, none⟩ : Addr).add j) = some u := by
  intro j u h
  have e := World.alloc_heap_new W (.cells #[x, y, z] t)
  revert e
  generalize W.alloc (.cells #[x, y, z] t) = X
  intro e
  rcases j with _ | _ | _ | j
  · simp at h; subst h; simp [World.cell?, Addr.add, e]
  · simp at h; subst h; simp [World.cell?, Addr.add, e]
  · simp at h; subst h; simp [World.cell?, Addr.add, e]
  · simp at h
/-- a round's activation -/
def decAx (w : World) (A : Option Addr) (c : Nat) (b : List Int) (seq cnt : Int) (g : Gone) (a' : Act) (W : World) : Prop :=
  ∃ Bx, w.heap.size + 3 ≤ Bx ∧ W.heap[Bx]? = some (.cells (goneCells g) 100 (0, 0)) ∧ a' = { tmps := #[.slice A b.length c, undef, .int .u64 seq, .pointer (some ⟨w.heap.size, 0, none⟩), .int .i64 0, .int .i64 cnt, .int .i64 0, .pointer (some ⟨w.heap.size + 1, 0, none⟩), .pointer (some ⟨Bx, 0, none⟩), undef, undef, .tuple #[.int .u64 seq, .int .i64 cnt, .int .i64 0], .slice A b.length c, .tuple #[.int .u64 seq, .int .i64 cnt, .int .i64 0], .int .u64 seq, .int .i64 cnt, .int .i64 0, .int .i64 0, .bool false, undef, .slice A b.length c, .func (.func 76) #[] #[.pointer (some ⟨w.heap.size + 2, 0, none⟩)], .agg (goneCells g), undef, undef, undef, undef, undef, undef, undef, undef, undef, undef, undef, undef, undef, undef, undef, undef, undef, undef, undef, undef, undef, undef, undef, undef, undef, undef, undef, undef, undef, undef, undef, undef, undef, undef], defers := [] }
set_option maxHeartbeats 8000000 in
set_option maxRecDepth 100000 in
theorem batch_Decode_callsW (A : Option Addr) (c : Nat) (b : List Int) (w : World) (hr0 : Kd.C (Kd.int .u8) w A b.length b) (hc : b.length ≤ c) (hb : Bytes b) (hlen : b.length ≤ 4194304) (hsn : Sane (opsOf04 (goneL b))) :
    Calls Try.prog 33 #[.slice A b.length c] w fun e w' => ∃ v0_ : Value, e = .returned (.tuple #[.int .u64 (decB b).1, v0_, .int .i64 (decB b).2.2]) ∧ Kd.R k65 65 w' w.heap.size (fun _ => True) v0_ (decB b).2.1 ∧ Below w.heap.size w w' := by
  have HSN := Aside0.mk hsn
  clear hsn
  have HR := Aside0.mk hr0
  have HC := Aside0.mk hc
  have HBY := Aside0.mk hb
  have HLEN := Aside0.mk hlen
  have HB0 := Aside0.mk (below_alloc (Below.refl w.heap.size w) (.cells #[.slice none 0 0] 22))
  have BX0 := Aside0.mk (Boxed.new w 22 (.slice none 0 0))
  have HHD := Aside0.mk (head_eq 10 b hb (by omega) (Nat.le_refl _))
  unfold headR at HHD
  refine (callsIn_wide (n := 3)).1 ?_
  by_cases h12 : b.length < 12
  · rw [if_pos h12] at HHD
    have e : decB b = (0, [], 41) := by unfold decB; rw [if_pos h12]
    rw [e]
    clear e hr0 hc hb hlen h12
    refine callsIn_of_wp_marks Try.func33 rfl trivial ?_ rfl
    simp only [Try.ntmps33, List.size_toArray, List.length_cons, List.length_nil, Nat.reduceAdd, Nat.reduceSub, Array.replicate_succ, Array.replicate_zero, List.push_toArray, List.append_toArray, List.nil_append, List.cons_append]
    gi_wp2_with fail
    refine ⟨trivial, ?_⟩
    (with_reducible refine (callsIn_wide.2 (batch_Head.calls 10 A c b _ _ _ _ (Kd.C_below HR.out HB0.out) HC.out HHD.out)).mono ?_)
    rintro e w1 ⟨rfl, hd⟩
    have HB1 := Aside0.mk (below_step HB0.out hd.below)
    have bx1 := (hd.below.block _ (blk_lt BX0.out)).trans BX0.out
    have x0 := blk_cell bx1 0
    have y0 := blk_frozen bx1 0
    clear hd
    gi_wp2
    exact ⟨_, results_tct rfl _ _ w.heap.size (.slice none 0 0) rfl (blk_cell (blk_put (cs := #[.slice none 0 0]) bx1 0 _ rfl) 0) Try.underlying22, _, rfl, Kd.R_nil _ _ _ _ _, below_set HB1.out (Nat.le_refl _)⟩
  · rw [if_neg h12] at HHD
    obtain ⟨seq, hseq⟩ : ∃ seq, le (seg b 0 8) = seq := ⟨_, rfl⟩
    obtain ⟨cnt, hcnt⟩ : ∃ cnt, le (seg b 8 4) = cnt := ⟨_, rfl⟩
    have hs8 := seg8_small b hb
    have hs4 := seg4_small b hb
    rw [hseq] at hs8 HHD
    rw [hcnt] at hs4 HHD
    obtain ⟨DB, hDB⟩ : ∃ DB, decB b = DB := ⟨_, rfl⟩
    have hDB2 := hDB
    unfold decB at hDB2
    rw [if_neg h12, hseq, hcnt] at hDB2
    have HDB := Aside0.mk hDB2
    rw [hDB]
    clear hDB hDB2 hseq hcnt hr0 hc hb hlen h12
    refine callsIn_of_wp_marks Try.func33 rfl trivial ?_ rfl
    simp only [Try.ntmps33, List.size_toArray, List.length_cons, List.length_nil, Nat.reduceAdd, Nat.reduceSub, Array.replicate_succ, Array.replicate_zero, List.push_toArray, List.append_toArray, List.nil_append, List.cons_append]
    gi_wp2_with fail
    refine ⟨trivial, ?_⟩
    (with_reducible refine (callsIn_wide.2 (batch_Head.calls 10 A c b _ _ _ _ (Kd.C_below HR.out HB0.out) HC.out HHD.out)).mono ?_)
    rintro e w1 ⟨rfl, hd⟩
    have HB1 := Aside0.mk (below_step HB0.out hd.below)
    have BX1 := Aside0.mk (show Boxed w1 w.heap.size 22 (.slice none 0 0) from (hd.below.block _ (blk_lt BX0.out)).trans BX0.out)
    have HSZ := Aside0.mk (show w1.heap.size = w.heap.size + 1 by obtain ⟨nd, e⟩ := hd.out; rw [e]; simp)
    clear hd
    gi_wp2_with fail
    refine ⟨trivial, ?_⟩
    (with_reducible refine (callsIn_wide.2 (all_calls A b.length c _)).mono ?_)
    rintro e w2 ⟨rfl, rfl⟩
    rw [show (w1.alloc (.cells #[.int .i64 12] 3)).heap.size = w.heap.size + 2 by rw [World.size_alloc, HSZ.out]]
    have HSZ1 := HSZ.out
    gi_wp2
    obtain ⟨W0, hW0⟩ : ∃ W0, (w1.alloc (.cells #[.int .i64 12] 3)).alloc (.cells #[.slice A b.length c] 33) = W0 := ⟨_, rfl⟩
    have hz0 : W0.heap.size = w.heap.size + 3 := by rw [← hW0, World.size_alloc, World.size_alloc, HSZ1]
    have hx0 : Boxed W0 w.heap.size 22 (.slice none 0 0) := by rw [← hW0]; exact (BX1.out.alloc _).alloc _
    have hx1 : Boxed W0 (w.heap.size + 1) 3 (.int .i64 12) := by
      have := (Boxed.new w1 3 (.int .i64 12)).alloc (.cells #[.slice A b.length c] 33)
      rw [← hW0]; rwa [HSZ1] at this
    have hx2 : Boxed W0 (w.heap.size + 2) 33 (.slice A b.length c) := by
      have := Boxed.new (w1.alloc (.cells #[.int .i64 12] 3)) 33 (.slice A b.length c)
      rw [World.size_alloc, HSZ1] at this
      rw [← hW0]; exact this
    have hb0 : Below w.heap.size w W0 := by rw [← hW0]; exact below_alloc (below_alloc HB1.out _) _
    rw [hW0]
    clear hW0
    have hz0' : W0.heap.size = w.heap.size + 3 := hz0
    refine wpIn_rangeFunc_ownH (n := 3) (F := Fence.wide) rfl (by decide) (gf := 76) (lb := #[.pointer (some ⟨w.heap.size + 2, 0, none⟩)]) rfl trivial (enters_of Try.func76 (by kernel_rfl) rfl)
      (all_stops (w.heap.size + 3) (w.heap.size + 2) (fun k => k = w.heap.size ∨ k = w.heap.size + 1) A c b W0 HBY.out (Nat.le_trans HLEN.out (by decide)) HC.out (by omega) ?read) KpS.trans ?put (Below.refl _ _) (fun _ => rfl)
      (DecI w (w.heap.size + 3)) (fun _ _ _ => False) (decI_own w _ _ (by omega)) (fun _ _ _ _ _ hs _ _ => hs) ?init (decAx w A c b seq cnt) ?ax ?assign ?body ?done ?stop
    case read =>
      intro W' hK
      refine ⟨C_of_heap HR.out (Nat.le_trans hb0.size hK.1) (fun k hk => (hK.2 k (by omega) (by omega)).trans (hb0.block k hk)), ?_⟩
      exact (show Boxed W' (w.heap.size + 2) 33 (.slice A b.length c) from (hK.2 _ (by omega) (by omega)).trans hx2).cell
    case put =>
      intro W l o o' hl _ _ _
      exact kpS_putObj _ _ W l o' (by omega)
    case init => exact ⟨⟨_, hx0, World.ownsRow_nil _ _ _ _⟩, hx1, hb0, by omega⟩
    case ax =>
      rintro g a' _ X Y row ⟨Bx, h1, h2, h3⟩ hg hr
      exact ⟨Bx, h1, cells_own Bx _ _ X Y row h2 hg (fun r e => (hr r e).2), h3⟩
    case assign =>
      rintro l pre g W K hI hK
      have hws := hI.2.2.2
      simp only [encG]
      gi_wp2
      exact hK _ _ ((KeepsOthers.alloc W _).from _) ⟨by rw [World.size_alloc]; omega, fun k hk _ => Below.heap_alloc W _ k (by omega)⟩ ((decI_own w (w.heap.size + 3) W0.heap.size (by omega)).alloc _ hI) ⟨W.heap.size, hws, World.alloc_heap_new W _, rfl⟩
    case body =>
      rintro l pre g a' W hl hr ⟨⟨v, hv, hrow⟩, he, hbw, hws⟩ ⟨Bx, hBx, hbx, rfl⟩ hlt
      have hgl := goneL_len b HBY.out (Nat.le_trans HLEN.out (by decide))
      have hl0 := HSN.out.1
      rw [opsOf_len] at hl0
      have hpl : pre.length < 1048576 := by omega
      have hc := hv.cell
      have hbx' : W.heap[Bx]? = some (.cells #[.int .u64 g.1, .int .i64 g.2.1.f0, .string g.2.1.f1, .string g.2.1.f2, .int .i64 g.2.2] 100 (0, 0)) := hbx
      have hc1 : W.cell? ⟨Bx, 1, none⟩ = some (.int .i64 g.2.1.f0) := by simp [World.cell?, hbx']
      have hc2 : W.cell? ⟨Bx, 2, none⟩ = some (.string g.2.1.f1) := by simp [World.cell?, hbx']
      have hc3 : W.cell? ⟨Bx, 3, none⟩ = some (.string g.2.1.f2) := by simp [World.cell?, hbx']
      have hne : some Bx ≠ v.ownBlock := by
        rcases hrow.2 with ⟨rfl, _⟩ | ⟨g', cap, cur, rfl, _, hgb, _⟩
        · simp [Value.ownBlock]
        · intro e
          obtain rfl : Bx = g' := by simpa [Value.ownBlock] using e
          rw [hbx] at hgb
          cases hgb
      have hoff : ∀ j, v.ownBlock = some j → w.heap.size + 3 ≤ j := by
        intro j e
        rcases hrow.2 with ⟨rfl, _⟩ | ⟨g', cap, cur, rfl, hb', _, _⟩
        · simp [Value.ownBlock] at e
        · obtain rfl : g' = j := by simpa [Value.ownBlock] using e
          exact hb'
      have hcl : ∀ (T : Obj) (j : Nat) (o : Obj), v.ownBlock = some j → (W.alloc T).heap[j]? = some o → o.isCells = true := by
        intro T j o ej hj
        rcases (hrow.alloc T).2 with ⟨rfl, _⟩ | ⟨g2, cap, cur, rfl, _, hgb, _⟩
        · simp [Value.ownBlock] at ej
        · obtain rfl : g2 = j := by simpa [Value.ownBlock] using ej
          rw [hgb] at hj; cases hj; rfl
      have hinfo : (Try.prog.info? 65).map (fun i => (i.zero, i.size, i.bytes)) = some (some (.agg #[.int .i64 0, .string ⟨#[]⟩, .string ⟨#[]⟩]), 3, 40) := by kernel_rfl
      obtain ⟨i0, hi, hz0, hz1, hz2⟩ := info_parts hinfo
      clear hl0 hgl hlt
      gi_wp2_with (gi_at_builtin; refine wpListIn_append_own _ rfl _ _ 22 rfl (w.heap.size + 3) 65 i0 _ 3 40 Try.underlying22 hi hz0 hz1 hz2 rfl (by decide) _ _ _ rfl (hrow.alloc _) ⟨W.heap.size, 0, none⟩ 1 1 [.int .i64 g.2.1.f0, .string g.2.1.f1, .string g.2.1.f2] rfl rfl (cells3_new _ _ _ _ _) (by simp [Value.oneCell']) (by unfold maxLen; omega) (by omega) (by rw [World.size_alloc]; omega) ?_; intro v' W1 hown' hgrow _; obtain ⟨g', cap', rfl⟩ := ownsRow_succ hown'; have hv1 := (hv.alloc _).kept hgrow (hv.not_row (by decide) hrow); have he1 := (he.alloc _).kept hgrow (he.not_row (by decide) hrow); have hb1 : W1.heap[Bx]? = _ := (hgrow.block Bx (by rw [World.size_alloc]; exact Nat.lt_succ_of_lt (blk_lt hbx)) hne).trans ((Below.heap_alloc _ _ _ (blk_lt hbx)).trans hbx'); have hv2 := hv1.set (.slice (some ⟨g', 0, none⟩) (pre.length + 1) cap'); have he2 := he1.other (show w.heap.size + 1 ≠ w.heap.size by omega) (.slice (some ⟨g', 0, none⟩) (pre.length + 1) cap'); have hb2 := (Below.heap_setCell W1 ⟨w.heap.size, 0, none⟩ (.slice (some ⟨g', 0, none⟩) (pre.length + 1) cap') Bx (by show Bx ≠ w.heap.size; omega)).trans hb1; have hk1 := hv1.cell; have hk2 := hv1.frozen; have hk3 := he2.cell; have hk4 := he2.frozen; have hk5 := (show (W1.setCell ⟨w.heap.size, 0, none⟩ (.slice (some ⟨g', 0, none⟩) (pre.length + 1) cap')).cell? ⟨Bx, 4, none⟩ = some (.int .i64 g.2.2) by simp [World.cell?, hb2]))
      have hw1 : W.heap.size + 1 ≤ W1.heap.size := by have := hgrow.size; rwa [World.size_alloc] at this
      have hs1 := (KeepsWalks.setCell W1 ⟨w.heap.size, 0, none⟩ (.slice (some ⟨g', 0, none⟩) (pre.length + 1) cap')).size
      have hs2 := (KeepsWalks.setCell (W1.setCell ⟨w.heap.size, 0, none⟩ (.slice (some ⟨g', 0, none⟩) (pre.length + 1) cap')) ⟨w.heap.size + 1, 0, none⟩ (.int .i64 g.2.2)).size
      have hr1 := hown'.kept (grownBy_setCell' W1 w.heap.size (.slice (some ⟨g', 0, none⟩) (pre.length + 1) cap')) (.inr (hv1.not_row (by decide) hown').symm)
      have hr2 := hr1.kept (grownBy_setCell' _ (w.heap.size + 1) (.int .i64 g.2.2)) (.inr (he2.not_row (by decide) hr1).symm)
      refine ⟨KeepsOthers.from ((((KeepsOthers.alloc W _).trans (KeepsOthers.of_grownBy hgrow fun j o ej hj => ?_)).trans (KeepsOthers.setCell _ _ _)).trans (KeepsOthers.setCell _ _ _)) _, ⟨by omega, fun k hk hS => ?_⟩, ⟨_, hv2.other (by omega) _, ?_⟩, ?_, hbw.trans (((((Below.refl w.heap.size W).alloc (by omega) _).grown hgrow (by rw [World.size_alloc]; omega) (fun j ej => by have := hoff j ej; omega)).setCell (p := ⟨w.heap.size, 0, none⟩) (Nat.le_refl _) _).setCell (p := ⟨w.heap.size + 1, 0, none⟩) (Nat.le_succ _) _), by omega⟩
      · exact hcl _ j o ej hj
      · have h1 : k ≠ w.heap.size := fun e => hS (.inl e)
        have h2 : k ≠ w.heap.size + 1 := fun e => hS (.inr e)
        exact (Below.heap_setCell _ ⟨w.heap.size + 1, 0, none⟩ _ k h2).trans ((Below.heap_setCell W1 ⟨w.heap.size, 0, none⟩ _ k h1).trans ((hgrow.block k (by rw [World.size_alloc]; omega) (fun e => by have := hoff k e.symm; omega)).trans (Below.heap_alloc W _ k (by omega))))
      · rw [opsOf_snoc, opsCells_snoc, List.length_append]
        exact hr2
      · rw [lastEnd_snoc]
        exact he2.set _
    case done =>
      rintro D ys W hD rfl ⟨⟨v, hv, hrow⟩, he, hbw, hws⟩ hK
      have hbase : W.ownsRow w.heap.size 65 3 v (goneL b).length (opsCells (opsOf04 (goneL b))) := ⟨hrow.1, hrow.2.imp (fun h => h) (fun ⟨g', cap, cur, e, hb', h⟩ => ⟨g', cap, cur, e, by omega, h⟩)⟩
      have hR := R_of_ops (by rw [opsOf_len]; exact hbase)
      have hc := hv.cell
      have he' := he.cell
      have HSANE := HSN
      have HN := Aside0.mk (show (goneL b).length ≤ 1048576 by have := HSN.out.1; rwa [opsOf_len] at this)
      have HBW := Aside0.mk hbw
      have HOPS := Aside0.mk (opsOf_len (goneL b))
      have HD := Aside0.mk hD
      have HK := Aside0.mk hK
      have HE := Aside0.mk he
      have HV := Aside0.mk hv
      have HDB2 := HDB.out
      have HDBX := Aside0.mk HDB2
      clear hbw HDB2 hK hv he hD
      generalize opsOf04 (goneL b) = L at *
      obtain ⟨A1, c1, rfl, hl1, hr1⟩ := Kd.R_reads hR
      have HRR := Aside0.mk hR
      have HL1 := Aside0.mk hl1
      have HR1 := Aside0.mk hr1
      have HBASE := Aside0.mk hbase
      clear hR hl1 hr1 hbase hrow
      generalize (goneL b).length = NN at *
      generalize lastEnd (goneL b) = EE at *
      gi_wp2_with fail
      refine ⟨trivial, ?_⟩
      (with_reducible refine (callsIn_wide.2 (batch_Check.calls (11 + L.length) A1 c1 L _ _ _ HR1.out HL1.out (check_eq _ L HSANE.out (Nat.le_refl _)))).mono ?_)
      rintro e w5 ⟨rfl, hb5⟩
      have g5 : W.grownBy w5 none := ⟨hb5.os, hb5.tape, hb5.output, hb5.size, fun k hk _ => hb5.block k hk⟩
      have V5 := HV.out.kept g5 (by simp)
      have E5 := HE.out.kept g5 (by simp)
      have HK5 := Aside0.mk ((hb5.block D (blk_lt HK.out)).trans HK.out)
      have HBASE5 := Aside0.mk (row_own W w5 none HBASE.out g5 (fun r e => by cases e))
      have HBW5 := Aside0.mk (HBW.out.trans (hb5.mono (by have := blk_lt HV.out; omega)))
      have x1 := V5.cell
      have x2 := V5.frozen
      have x3 := E5.cell
      have HV5 := Aside0.mk V5
      have HCK := HDBX.out
      clear HDBX g5 V5 E5 hb5
      generalize chk L = ck at *
      obtain ⟨ci, ce⟩ := ck
      have HDX := Aside0.mk HCK
      clear HCK
      dsimp only []
      by_cases k1 : ce = 0
      rotate_left
      · gi_wp2
        refine ⟨trivial, ?_⟩
        gi_wp2
        have hDB : DB = (0, [], 41) := by have h := HDX.out; rw [if_neg (fun h => k1 h.1)] at h; exact h.symm
        rw [hDB]
        exact dec_end w _ D (.slice none 0 0) [] _ 0 41 (HV5.out.set _) (World.ownsRow_nil _ _ _ _) (HBW5.out.setCell (p := ⟨w.heap.size, 0, none⟩) (Nat.le_refl _) _) ((Below.heap_setCell _ _ _ D (by have := HD.out; show D ≠ w.heap.size; omega)).trans HK5.out) (by have := HD.out; omega) rfl rfl rfl
      subst k1
      by_cases k2 : (NN : Int) = cnt
      rotate_left
      · have k2' : ¬ (L.length : Int) = cnt := by rw [HOPS.out]; exact k2
        gi_wp2
        refine ⟨trivial, ?_⟩
        gi_wp2
        have hDB : DB = (0, [], 41) := by have h := HDX.out; rw [if_neg (fun h => k2 h.2.1)] at h; exact h.symm
        rw [hDB]
        exact dec_end w _ D (.slice none 0 0) [] _ 0 41 (HV5.out.set _) (World.ownsRow_nil _ _ _ _) (HBW5.out.setCell (p := ⟨w.heap.size, 0, none⟩) (Nat.le_refl _) _) ((Below.heap_setCell _ _ _ D (by have := HD.out; show D ≠ w.heap.size; omega)).trans HK5.out) (by have := HD.out; omega) rfl rfl rfl
      by_cases k3 : EE = (b.length : Int)
      rotate_left
      · have k2' : (L.length : Int) = cnt := by rw [HOPS.out]; exact k2
        gi_wp2
        refine ⟨trivial, ?_⟩
        gi_wp2
        have hDB : DB = (0, [], 41) := by have h := HDX.out; rw [if_neg (fun h => k3 h.2.2.1)] at h; exact h.symm
        rw [hDB]
        exact dec_end w _ D (.slice none 0 0) [] _ 0 41 (HV5.out.set _) (World.ownsRow_nil _ _ _ _) (HBW5.out.setCell (p := ⟨w.heap.size, 0, none⟩) (Nat.le_refl _) _) ((Below.heap_setCell _ _ _ D (by have := HD.out; show D ≠ w.heap.size; omega)).trans HK5.out) (by have := HD.out; omega) rfl rfl rfl
      have k2' : (L.length : Int) = cnt := by rw [HOPS.out]; exact k2
      have hfit := fit_eq seq NN hs8.1 (by have h1 := HN.out; have h2 := HLEN.out; omega)
      rw [k2] at hfit
      have HFIT := Aside0.mk hfit
      clear hfit
      gi_wp2
      refine ⟨trivial, ?_⟩
      (with_reducible refine (callsIn_wide.2 (batch_fit.calls _ _ _ _ HFIT.out)).mono ?_)
      rintro e w6 ⟨rfl, hd6⟩
      have hb6 := hd6.below
      have g6 : w5.grownBy w6 none := ⟨hb6.os, hb6.tape, hb6.output, hb6.size, fun k hk _ => hb6.block k hk⟩
      have V6 := HV5.out.kept g6 (by simp)
      have HK6 := Aside0.mk ((hb6.block D (blk_lt HK5.out)).trans HK5.out)
      have HBASE6 := Aside0.mk (row_own w5 w6 none HBASE5.out g6 (fun r e => by cases e))
      have HBW6 := Aside0.mk (HBW5.out.trans (hb6.mono (by have := blk_lt HV5.out; omega)))
      have y1 := V6.cell
      have y2 := V6.frozen
      have HV6 := Aside0.mk V6
      clear g6 V6 hb6 hd6
      have hcn : cnt.toNat = NN := by omega
      by_cases k4 : fitB seq NN = true
      rotate_left
      · rw [Bool.not_eq_true] at k4
        rw [k4]
        gi_wp2
        have hDB : DB = (0, [], 41) := by have h := HDX.out; rw [hcn, k4, if_neg (fun h => by simp at h)] at h; exact h.symm
        rw [hDB]
        exact dec_end w _ D (.slice none 0 0) [] _ 0 41 (HV6.out.set _) (World.ownsRow_nil _ _ _ _) (HBW6.out.setCell (p := ⟨w.heap.size, 0, none⟩) (Nat.le_refl _) _) ((Below.heap_setCell _ _ _ D (by have := HD.out; show D ≠ w.heap.size; omega)).trans HK6.out) (by have := HD.out; omega) rfl rfl rfl
      · rw [k4]
        gi_wp2
        have y3 := HV6.out.cell
        have z1 : (w6.drew).cell? ⟨w.heap.size, 0, none⟩ = some (.slice A1 L.length c1) := y3
        have z2 : (w6.drew).frozen? ⟨w.heap.size, 0, none⟩ = false := HV6.out.frozen
        gi_region
        all_goals gi_wp2
        have hDB : DB = (seq, L, 0) := by have h := HDX.out; rw [hcn, if_pos ⟨by trivial, k2, k3, k4⟩] at h; exact h.symm
        rw [hDB]
        have R7 := HBASE6.out.kept (grownBy_setCell' w6 w.heap.size (.slice A1 L.length c1)) (.inr (HV6.out.not_row (by decide) HBASE6.out).symm)
        have D7 : Below (w6.setCell ⟨w.heap.size, 0, none⟩ (.slice A1 L.length c1)).heap.size (w6.setCell ⟨w.heap.size, 0, none⟩ (.slice A1 L.length c1)) (w6.setCell ⟨w.heap.size, 0, none⟩ (.slice A1 L.length c1)).drew := (Below.refl _ _).drew
        have R8 := row_own _ _ none R7 ⟨D7.os, D7.tape, D7.output, D7.size, fun k hk _ => D7.block k hk⟩ (fun r e => by cases e)
        exact dec_end w _ D (.slice A1 L.length c1) L _ seq 0 (show Boxed (w6.setCell ⟨w.heap.size, 0, none⟩ (.slice A1 L.length c1)).drew _ _ _ from HV6.out.set _) (by rw [HOPS.out]; rw [HOPS.out] at R8; exact R8) ((HBW6.out.setCell (p := ⟨w.heap.size, 0, none⟩) (Nat.le_refl _) _).drew) (show (w6.setCell ⟨w.heap.size, 0, none⟩ (.slice A1 L.length c1)).heap[D]? = _ from (Below.heap_setCell _ _ _ D (by have := HD.out; show D ≠ w.heap.size; omega)).trans HK6.out) (by have := HD.out; omega) rfl rfl rfl
    case stop =>
      rintro D c pre W _ _ h _
      exact h.elim
theorem batch_Decode_calls (A : Option Addr) (c : Nat) (b : List Int) (w : World) (hr0 : Kd.C (Kd.int .u8) w A b.length b) (hc : b.length ≤ c) (hb : Bytes b) (hlen : b.length ≤ 1048576) :
    Calls Try.prog 33 #[.slice A b.length c] w fun e w' => ∃ v0_ : Value, e = .returned (.tuple #[.int .u64 (decB b).1, v0_, .int .i64 (decB b).2.2]) ∧ Kd.R k65 65 w' w.heap.size (fun _ => True) v0_ (decB b).2.1 ∧ Below w.heap.size w w' :=
  batch_Decode_callsW A c b w hr0 hc hb (by omega) (sane_gone b hb hlen)

end Go.Proofs.Ythkooncibfkepaa.G

/- Contracts typed by hand: a range over an iterator that is itself a range over another one: its contract is told which blocks a round leaves alone -/
namespace Go.Proofs.Ythkooncibfkepaa.G
open Go.RowKit Go.Proofs.YthkooncibfkepaaW.PrintWords Go.Proofs.YthkooncibfkepaaW.PrintLast Go.Proofs.YthkooncibfkepaaW.PrintMore
attribute [local go_sem] max2_int min2_int max_two min_two max_three min_three max_four min_four
set_option linter.unusedVariables false
set_option linter.unusedSimpArgs false

/-! a range over an iterator that is itself a range over another one: its contract is told which blocks a round leaves alone -/
open Go.Shelf
/-- what a piece of a walk leaves alone: each block that stood, but for those of a set -/
def Leave (S : Nat → Prop) (A B : World) : Prop := A.heap.size ≤ B.heap.size ∧ ∀ k, k < A.heap.size → ¬ S k → B.heap[k]? = A.heap[k]?
theorem Leave.refl (S : Nat → Prop) (A : World) : Leave S A A := ⟨Nat.le_refl _, fun _ _ _ => rfl⟩
theorem Leave.trans {S : Nat → Prop} {A B C : World} (h : Leave S A B) (k : Leave S B C) : Leave S A C := ⟨Nat.le_trans h.1 k.1, fun i hi hs => (k.2 i (Nat.lt_of_lt_of_le hi h.1) hs).trans (h.2 i hi hs)⟩
theorem Leave.wider {S T : Nat → Prop} {A B : World} (h : Leave S A B) (hst : ∀ k, k < A.heap.size → S k → T k) : Leave T A B := ⟨h.1, fun i hi hs => h.2 i hi (fun e => hs (hst i hi e))⟩
theorem Leave.below {S : Nat → Prop} {A B : World} (h : Below A.heap.size A B) : Leave S A B := ⟨h.size, fun i hi _ => h.block i hi⟩
theorem Leave.put {S : Nat → Prop} (A : World) {l : Nat} (o : Obj) (h : S l) : Leave S A (A.putObj l o) := ⟨(grownBy_putObj' A l o).size, fun _ _ hs => World.putObj_heap_other (fun e => hs (e ▸ h))⟩
theorem Leave.set {S : Nat → Prop} (A : World) {p : Addr} (v : Value) (h : S p.block) : Leave S A (A.setCell p v) := ⟨(KeepsOthers.setCell A p v).size, fun k _ hs => Below.heap_setCell A p v k (fun e => hs (e ▸ h))⟩
theorem Leave.alloc {S : Nat → Prop} (A : World) (o : Obj) : Leave S A (A.alloc o) := ⟨by rw [World.size_alloc]; omega, fun k hk _ => Below.heap_alloc A o k hk⟩
theorem Leave.keeps {S : Nat → Prop} {A B : World} (h : Leave S A B) (N : Nat) (hs : ∀ k, S k → k < N) : KeepsFrom N A B := ⟨h.1, fun k o hk ho _ => (h.2 k (Array.getElem?_eq_some_iff.1 ho).1 (fun e => by have := hs k e; omega)).trans ho⟩
theorem Leave.get {S : Nat → Prop} {A B : World} (h : Leave S A B) {k : Nat} {o : Obj} (ho : A.heap[k]? = some o) (hs : ¬ S k) : B.heap[k]? = some o := (h.2 k (Array.getElem?_eq_some_iff.1 ho).1 hs).trans ho

/-- an iterator's contract, where the rounds leave alone all but V and the loop's own record -/
def SeqRich {α : Type} (F : Fence) (n : Nat) (P : Program) (g : Nat) (lb : Array Value) (encs : α → Array Value) (V : Nat → Prop) (S Sp : List α → Prop) (w : World) : Prop :=
  ∀ (l : Nat) (J Jx : List α → World → Prop) (W : World), Below w.heap.size w W → w.heap.size ≤ l → l < W.heap.size → OwnFrom W.heap.size J → OwnFrom W.heap.size Jx →
    (∀ pre x W1, J pre W1 → W.heap.size ≤ W1.heap.size → Sp (pre ++ [x]) → YieldAt F (n - 1) P l (encs x) W1 fun e W' => Leave (fun k => V k ∨ k = l) W1 W' ∧
      ((e = .returned (.bool true) ∧ J (pre ++ [x]) W') ∨ (e = .returned (.bool false) ∧ Jx (pre ++ [x]) W'))) →
    J [] W →
    CallsIn F n P g (#[.func (.yield l) #[] #[]] ++ lb) W fun e W' => (∃ v, e = .returned v) ∧ ((∃ xs, S xs ∧ J xs W') ∨ (∃ pre, Sp pre ∧ Jx pre W'))
/-- how a round's body may be left -/
def leavePost {α : Type} (V : Nat → Prop) (I : List α → World → Prop) (Ix : Code → List α → World → Prop) (xs : List α) (W : World) : Exit → Act → World → Prop
  | .normal, _, W' => Leave V W W' ∧ I xs W'
  | .ret, _, W' => Leave V W W' ∧ Ix .ret xs W'
  | .exit id, _, W' => Leave V W W' ∧ Ix (.exit id) xs W'
  | .goto t, _, W' => Leave V W W' ∧ Ix (.goto t) xs W'
  | .panic _, _, _ => False
  | .outgrown, _, _ => False
/-- the loop's record -/
def recOf (fn : FuncId) (a : Act) (ps : Array Tmp) (assign body : Code) (D : Nat) (st : LoopState) (pe : Option Code) : Loop := { state := st, pending := pe, fn := fn, tmps := a.tmps, params := ps, assign := assign, body := body, defers := D }
/-- one round, seen from the record -/
theorem rich_round {α : Type} {F : Fence} {n : Nat} {P : Program} {ps : Array Tmp} {assign body : Code} {a : Act} {w : World} {fn : FuncId} (hfn : F.fn fn) {encs : α → Array Value} {V : Nat → Prop} (hV : ∀ k, V k → k < w.heap.size) (hps : ∀ x, (encs x).size = ps.size)
    {I : List α → World → Prop} {Ix : Code → List α → World → Prop} (hI : OwnFrom w.heap.size I) (hIx : ∀ c, OwnFrom w.heap.size (Ix c)) {Ax : α → Act → World → Prop} (hAx : ∀ x a', OwnFrom w.heap.size (fun (_ : Unit) W => Ax x a' W))
    {pre : List α} {x : α} {W : World} (hi : I pre W) (hl : W.heap[w.heap.size + 1]? = some (.loop (recOf fn a ps assign body w.heap.size .ready none))) (hk : W.heap[w.heap.size]? = some (.deferred (some [])))
    (hassign : ∀ (K : Act → World → Prop), (∀ a' W', Leave V W W' → I pre W' → Ax x a' W' → K a' W') →
      assign.wpIn (F.inRound (w.heap.size + 1)) n P (Exit.then K (fun _ _ _ => False)) { tmps := (ps.zip (encs x)).foldl (fun t (p, v) => t.setIfInBounds p v) a.tmps, defers := [] } W)
    (hbody : ∀ (a' : Act) (X : World), w.heap.size + 2 ≤ X.heap.size → (∃ r, X.heap[w.heap.size + 1]? = some (.loop r)) → I pre X → Ax x a' X → body.wpIn (F.inRound (w.heap.size + 1)) n P (leavePost V I Ix (pre ++ [x]) X) a' X) :
    YieldAt F n P (w.heap.size + 1) (encs x) W fun e W' => Leave (fun k => V k ∨ k = w.heap.size + 1) W W' ∧
      ((e = .returned (.bool true) ∧ (I (pre ++ [x]) W' ∧ W'.heap[w.heap.size + 1]? = some (.loop (recOf fn a ps assign body w.heap.size .ready none)) ∧ W'.heap[w.heap.size]? = some (.deferred (some [])))) ∨
       (e = .returned (.bool false) ∧ (∃ c, Ix c (pre ++ [x]) W' ∧ W'.heap[w.heap.size + 1]? = some (.loop (recOf fn a ps assign body w.heap.size .done (some c))) ∧ W'.heap[w.heap.size]? = some (.deferred (some []))))) := by
  have nL : ¬ V (w.heap.size + 1) := fun e => by have := hV _ e; omega
  have nD : ¬ V w.heap.size := fun e => by have := hV _ e; omega
  refine ⟨fn, _, assign, body, run_yield (args := encs x) hl (hps x), roundIn_of_wpIn hfn (hassign _ ?_)⟩
  intro a1 X hlv hi1 hx1
  have hlX := hlv.get hl nL
  have hkX := hlv.get hk nD
  have ltX : w.heap.size + 1 < X.heap.size := (Array.getElem?_eq_some_iff.1 hlX).1
  refine ⟨_, run_beginRound hlX rfl, ?_⟩
  obtain ⟨Y, hY⟩ : ∃ Y, X.putObj (w.heap.size + 1) (.loop { recOf fn a ps assign body w.heap.size .ready none with state := .busy }) = Y := ⟨_, rfl⟩
  have lY : Y.heap[w.heap.size + 1]? = some (.loop { recOf fn a ps assign body w.heap.size .ready none with state := .busy }) := by rw [← hY]; exact World.putObj_heap_same ltX
  have kY : Y.heap[w.heap.size]? = some (.deferred (some [])) := by rw [← hY]; exact (World.putObj_heap_other (by omega)).trans hkX
  have iY : I pre Y := by rw [← hY]; exact hI.putObj _ hi1 (by omega) hlX rfl
  have xY : Ax x a1 Y := by rw [← hY]; exact (hAx x a1).putObj (s := ()) _ hx1 (by omega) hlX rfl
  have lvY : Leave (fun k => V k ∨ k = w.heap.size + 1) W Y := (hlv.wider fun _ _ h => .inl h).trans (by rw [← hY]; exact Leave.put X _ (.inr rfl))
  rw [hY]
  refine wpIn_mono (hbody a1 Y (by have := (Array.getElem?_eq_some_iff.1 lY).1; omega) ⟨_, lY⟩ iY xY) ?_
  have fin : ∀ (jump : Option Code) (Z : World), Leave V Y Z → ∃ Z', (Instr.endRound (w.heap.size + 1) jump).run P Z = .ok (.bool jump.isNone) Z' ∧ Leave (fun k => V k ∨ k = w.heap.size + 1) W Z' ∧
      Z'.heap[w.heap.size + 1]? = some (.loop (recOf fn a ps assign body w.heap.size (if jump.isNone then .ready else .done) jump)) ∧ Z'.heap[w.heap.size]? = some (.deferred (some [])) ∧ (∀ xs, I xs Z → I xs Z') ∧ (∀ c xs, Ix c xs Z → Ix c xs Z') := by
    intro jump Z hz
    have lZ := hz.get lY nL
    refine ⟨_, run_endRound jump lZ, (lvY.trans (hz.wider fun _ _ h => .inl h)).trans (Leave.put Z _ (.inr rfl)), World.putObj_heap_same (Array.getElem?_eq_some_iff.1 lZ).1, (World.putObj_heap_other (by omega)).trans (hz.get kY nD), fun xs h => hI.putObj _ h (by omega) lZ rfl, fun c xs h => (hIx c).putObj _ h (by omega) lZ rfl⟩
  rintro e a3 Z hp
  cases e with
  | normal => obtain ⟨Z', h1, h2, h3, h4, h5, _⟩ := fin none Z hp.1; exact ⟨_, _, h1, h2, .inl ⟨rfl, h5 _ hp.2, h3, h4⟩⟩
  | ret => obtain ⟨Z', h1, h2, h3, h4, _, h6⟩ := fin (some .ret) Z hp.1; exact ⟨_, _, h1, h2, .inr ⟨rfl, .ret, h6 _ _ hp.2, h3, h4⟩⟩
  | exit id => obtain ⟨Z', h1, h2, h3, h4, _, h6⟩ := fin (some (.exit id)) Z hp.1; exact ⟨_, _, h1, h2, .inr ⟨rfl, .exit id, h6 _ _ hp.2, h3, h4⟩⟩
  | goto t => obtain ⟨Z', h1, h2, h3, h4, _, h6⟩ := fin (some (.goto t)) Z hp.1; exact ⟨_, _, h1, h2, .inr ⟨rfl, .goto t, h6 _ _ hp.2, h3, h4⟩⟩
  | panic ch => exact hp.elim
  | outgrown => exact hp.elim
/-- the statement `for .. := range seq`, over such a contract -/
theorem rich_range {α : Type} {F : Fence} {n : Nat} {P : Program} {g : Operand} {ps : Array Tmp} {assign body : Code} {Q : Exit → Act → World → Prop} {a : Act} {w : World}
    (hro : F.round = none) (h1 : 1 ≤ n) {gf : Nat} {lb : Array Value} (hg : a.eval g = .func (.func gf) #[] lb) (hFg : F.fn gf) (eg : ∀ args w, (callFunc gf args).run P w = .ok (.enter gf args) w)
    {encs : α → Array Value} {V : Nat → Prop} {S Sp : List α → Prop} {w0 : World} (hseq : SeqRich F (n - 1) P gf lb encs V S Sp w0) (hV : ∀ k, V k → k < w.heap.size) (hb0 : Below w0.heap.size w0 w) (hps : ∀ x, (encs x).size = ps.size)
    (I : List α → World → Prop) (Ix : Code → List α → World → Prop) (hI : OwnFrom w.heap.size I) (hIx : ∀ c, OwnFrom w.heap.size (Ix c)) (h0 : I [] w) (Ax : α → Act → World → Prop) (hAx : ∀ x a', OwnFrom w.heap.size (fun (_ : Unit) W => Ax x a' W))
    (hassign : ∀ (pre : List α) (x : α) (W : World) (K : Act → World → Prop), w.heap.size + 2 ≤ W.heap.size → I pre W → (∀ a' W', Leave V W W' → I pre W' → Ax x a' W' → K a' W') →
      assign.wpIn (F.inRound (w.heap.size + 1)) (n - 1 - 1) P (Exit.then K (fun _ _ _ => False)) { tmps := (ps.zip (encs x)).foldl (fun t (p, v) => t.setIfInBounds p v) a.tmps, defers := [] } W)
    (hbody : ∀ (pre : List α) (x : α) (a' : Act) (W : World), w.heap.size + 2 ≤ W.heap.size → (∃ r, W.heap[w.heap.size + 1]? = some (.loop r)) → I pre W → Ax x a' W → Sp (pre ++ [x]) → body.wpIn (F.inRound (w.heap.size + 1)) (n - 1 - 1) P (leavePost V I Ix (pre ++ [x]) W) a' W)
    (hdone : ∀ (xs : List α) (W : World), S xs → I xs W → W.heap[w.heap.size]? = some (.deferred (some [])) → Q .normal { a with defers := { target := .collected w.heap.size, args := #[] } :: a.defers } W)
    (hstop : ∀ (c : Code) (pre : List α) (W : World), Sp pre → Ix c pre W → W.heap[w.heap.size]? = some (.deferred (some [])) → c.wpIn F n P Q { a with defers := { target := .collected w.heap.size, args := #[] } :: a.defers } W) :
    (Code.rangeFunc g ps assign body).wpIn F n P Q a w := by
  refine wpIn_rangeFunc ?_
  intro fn hfn
  rw [hro]
  obtain ⟨W1, hW1⟩ : ∃ W1, (w.alloc (.deferred (some []))).alloc (.loop (recOf fn a ps assign body w.heap.size .ready none)) = W1 := ⟨_, rfl⟩
  have sz : W1.heap.size = w.heap.size + 2 := by rw [← hW1, World.size_alloc, World.size_alloc]
  have hL : W1.heap[w.heap.size + 1]? = some (.loop (recOf fn a ps assign body w.heap.size .ready none)) := by
    have := World.alloc_heap_new (w.alloc (.deferred (some []))) (.loop (recOf fn a ps assign body w.heap.size .ready none))
    rw [World.size_alloc, hW1] at this
    exact this
  have hK : W1.heap[w.heap.size]? = some (.deferred (some [])) := by
    rw [← hW1]
    exact (Below.heap_alloc _ _ _ (by rw [World.size_alloc]; omega)).trans (World.alloc_heap_new w _)
  have hI1 : I [] W1 := by rw [← hW1]; exact hI.alloc _ (hI.alloc _ h0)
  have hb1 : Below w0.heap.size w0 W1 := by
    rw [← hW1]
    exact hb0.trans ((below_alloc (below_alloc (Below.refl w.heap.size w) _) _).mono hb0.size)
  have turned : ∀ {X Y : World} {row : Option Nat} {k : Nat} {o : Obj}, k < W1.heap.size → X.heap[k]? = some o → X.grownBy Y row → (∀ r, row = some r → W1.heap.size ≤ r ∧ ∃ o : Obj, X.heap[r]? = some o ∧ o.isCells = false) → Y.heap[k]? = some o :=
    fun hk ho hgr hr => (hgr.block _ (Array.getElem?_eq_some_iff.1 ho).1 (fun e => by have := (hr _ e.symm).1; omega)).trans ho
  have wide : ∀ {X : World} {row : Option Nat}, (∀ r, row = some r → W1.heap.size ≤ r ∧ ∃ o : Obj, X.heap[r]? = some o ∧ o.isCells = false) → ∀ r, row = some r → w.heap.size ≤ r ∧ ∃ o : Obj, X.heap[r]? = some o ∧ o.isCells = false :=
    fun hr r e => ⟨by have := (hr r e).1; omega, (hr r e).2⟩
  refine ⟨w.heap.size + 1, [{ target := .collected w.heap.size, args := #[] }], W1, { target := .fn (.func gf) lb, args := #[.func (.yield (w.heap.size + 1)) #[] #[]] }, W1, gf, #[.func (.yield (w.heap.size + 1)) #[] #[]] ++ lb, W1, ?_, ?_, ?_, ?_, fun _ => h1, ?_⟩
  · rw [← hW1]; exact run_enterLoop_outer _ _ _ _ _
  · simp only [resolve, hg]; simp [go_sem]
  · intro f' hf'; simp [Target.leads] at hf'; subst hf'; exact hFg
  · simp [invoke, go_sem, eg]
  · refine (hseq (w.heap.size + 1)
      (fun pre W => I pre W ∧ W.heap[w.heap.size + 1]? = some (.loop (recOf fn a ps assign body w.heap.size .ready none)) ∧ W.heap[w.heap.size]? = some (.deferred (some [])))
      (fun pre W => ∃ c, Ix c pre W ∧ W.heap[w.heap.size + 1]? = some (.loop (recOf fn a ps assign body w.heap.size .done (some c))) ∧ W.heap[w.heap.size]? = some (.deferred (some [])))
      W1 hb1 (by have := hb0.size; omega) (by omega) ?_ ?_ ?_ ⟨hI1, hL, hK⟩).mono ?_
    · rintro s X Y row ⟨q1, q2, q3⟩ hgr hr
      exact ⟨hI s X Y row q1 hgr (wide hr), turned (by omega) q2 hgr hr, turned (by omega) q3 hgr hr⟩
    · rintro s X Y row ⟨c, q1, q2, q3⟩ hgr hr
      exact ⟨c, hIx c s X Y row q1 hgr (wide hr), turned (by omega) q2 hgr hr, turned (by omega) q3 hgr hr⟩
    · rintro pre x W ⟨hi, hl, hk⟩ hsz hlen
      exact rich_round hfn hV hps hI hIx hAx hi hl hk (fun K hK => hassign pre x W K (by omega) hi hK) (fun a' X hX hr h2 h3 => hbody pre x a' X hX hr h2 h3 hlen)
    · rintro e Z ⟨⟨v, rfl⟩, (⟨xs, hS, hi, hl, hk⟩ | ⟨pre, hSp, c, hi, hl, hk⟩)⟩
      · exact ⟨none, _, run_endLoop hl (by simp [recOf]), hdone xs _ hS (hI.putObj _ hi (by omega) hl rfl) ((World.putObj_heap_other (by omega)).trans hk)⟩
      · exact ⟨some c, _, run_endLoop hl (by simp [recOf]), hstop c pre _ hSp ((hIx c).putObj _ hi (by omega) hl rfl) ((World.putObj_heap_other (by omega)).trans hk)⟩
/-- where no depth is asked the figures are all one -/
theorem yield_any {F : Fence} (hd : F.depth = none) {m : Nat} (m' : Nat) {P : Program} {l : Nat} {args : Array Value} {W : World} {R : Ending → World → Prop} (h : YieldAt F m P l args W R) : YieldAt F m' P l args W R := by
  obtain ⟨fn, tmps, assign, body, hy, hF, hR⟩ := h
  exact ⟨fn, tmps, assign, body, hy, hF, fun c cs _ => hR c cs (fun d e => by rw [hd] at e; cases e)⟩
/-- a contract of the elder kind, where a round keeps what its Kp says, from this kind's rounds -/
theorem yield_round {F : Fence} {m : Nat} {P : Program} {l l' : Nat} {args : Array Value} {W : World} {R : Ending → World → Prop} (h : YieldAt F m P l args W R) : YieldAt (F.inRound l') m P l args W R := h

end Go.Proofs.Ythkooncibfkepaa.G

/- Contracts typed by hand: batch.Walk: an iterator over an iterator -/
namespace Go.Proofs.Ythkooncibfkepaa.G
open Go.RowKit Go.Proofs.YthkooncibfkepaaW.PrintWords Go.Proofs.YthkooncibfkepaaW.PrintLast Go.Proofs.YthkooncibfkepaaW.PrintMore
attribute [local go_sem] max2_int min2_int max_two min_two max_three min_three max_four min_four
set_option linter.unusedVariables false
set_option linter.unusedSimpArgs false

/-! batch.Walk: an iterator over an iterator -/
open Go.Shelf
attribute [local go_sem] Oper.semAt_some
set_option maxHeartbeats 4000000 in
set_option maxRecDepth 100000 in
theorem clone_calls (g : Nat) (c0 : Nat) (l0 : List Int) (w : World) (hr0 : Kd.C (Kd.int .u8) w (some ⟨g, 0, none⟩) l0.length l0) (hl : l0.length ≤ 140737488355000) :
    Calls Try.prog 68 #[.slice (some ⟨g, 0, none⟩) l0.length c0] w fun e w' => ∃ v, e = .returned v ∧ Kd.R (Kd.int .u8) 5 w' w.heap.size (fun _ => True) v l0 ∧ Below w.heap.size w w' := by
  have HR := Aside0.mk hr0
  have HL := Aside0.mk hl
  clear hr0 hl
  have hinfo : (Try.prog.info? 5).map (fun i => (i.zero, i.size, i.bytes)) = some (some (.int .u8 0), 1, 1) := by kernel_rfl
  have HI := Aside0.mk hinfo
  clear hinfo
  have hcmp : ∀ (n c : Nat) (X : World), (binOp .eql 33 (.slice (some ⟨g, 0, none⟩) n c) (.slice none 0 0)).run Try.prog X = .ok (.bool false) X := by
    intro n c X
    first | rfl | (simp [binOp, go_sem]; done) | (unfold binOp; simp [go_sem, Try.underlying33]; done)
  go_enter Try.func68, Try.ntmps68
  go_wp2_with (first | ((with_reducible refine gate_dst (N := 5) rfl ?_); refine Kd.R_lit (Kd.int .u8) _ 5 ?hg (N := 5) ?hd (xs := ([] : List Int)) (inner := []) (ok := fun _ => True) (okp := fun _ => True) ?hr ?hp (fun _ hk => hk) trivial (Below.refl _ _) (Nat.le_refl _) (by simp) ?_; (case hd => rfl); (case hg => rfl); (case hr => first | (go_simp; done) | (go_simp; rfl)); (case hp => exact (Reps.none _ _)); intro v102 w6 ho7 hb hg_ hnew_; clear hg_ hnew_; have HO1 := Aside0.mk ho7; have HB1 := Aside0.mk hb; clear hb ho7) | ((with_reducible refine gate_builtin (b := .append) (xs := #[.tmp 5, .tmp 6]) rfl ?_); at_builtin; refine Kd.R_append_rows (Kd.int .u8) (w0 := w) w.heap.size rfl (.tmp 5) (.tmp 6) 33 5 (.int .u8 0) 1 rfl Try.underlying33 HI.out rfl (by decide) (by omega) v102 [] l0 _ _ _ (fun _ => True) (fun _ => False) rfl rfl ?aO ?aR (fun _ _ h => h) (fun _ h => h.elim) (fun _ _ => trivial) ?aB ?aS ?aL ?_; (case aR => exact (Kd.C_below HR.out HB1.out)); (case aB => exact HB1.out); (case aO => exact HO1.out); (case aS => exact HB1.out.size); (case aL => have := HL.out; simp; omega); intro v105 w8 ho hb hg hat; have HO2 := Aside0.mk ho; have HB2 := Aside0.mk hb; clear ho hb hg hat))
  go_ret
  exact ⟨_, rfl, HO2.out, HB2.out⟩
set_option maxHeartbeats 4000000 in
theorem walk_calls (g : Nat) (c0 : Nat) (l0 : List Int) (w : World) (hr0 : Kd.C (Kd.int .u8) w (some ⟨g, 0, none⟩) l0.length l0) (hl : l0.length ≤ 140737488355000) :
    Calls Try.prog 41 #[.slice (some ⟨g, 0, none⟩) l0.length c0] w fun e w' => ∃ v, e = .returned (.func (.func 69) #[] #[.pointer (some ⟨w.heap.size, 0, none⟩)]) ∧
      w'.heap[w.heap.size]? = some (.cells #[v] 33 (0, 0)) ∧ Kd.R (Kd.int .u8) 5 w' w.heap.size (fun _ => True) v l0 ∧ Below w.heap.size w w' := by
  have HR := Aside0.mk hr0
  have HL := Aside0.mk hl
  have HB0 := Aside0.mk (below_alloc (Below.refl w.heap.size w) (.cells #[.slice (some ⟨g, 0, none⟩) l0.length c0] 33))
  have HX0 := Aside0.mk (World.alloc_heap_new w (.cells #[.slice (some ⟨g, 0, none⟩) l0.length c0] 33))
  have HSZ := Aside0.mk (World.size_alloc w (.cells #[.slice (some ⟨g, 0, none⟩) l0.length c0] 33))
  clear hr0 hl
  go_enter Try.func41, Try.ntmps41
  go_wp2_with fail
  (with_reducible refine (clone_calls g c0 l0 _ (Kd.C_below HR.out HB0.out) HL.out).mono ?_)
  rintro e w1 ⟨v, rfl, ho, hb⟩
  obtain ⟨Av, cv, rfl, _, _⟩ := Kd.R_reads ho
  have hx := (hb.block _ (blk_lt HX0.out)).trans HX0.out
  have x0 := blk_cell hx 0
  have y0 := blk_frozen hx 0
  have HX1 := Aside0.mk hx
  have HB1 := Aside0.mk (below_step HB0.out hb)
  have HO := Aside0.mk ho
  clear hb ho hx
  go_wp2
  go_ret
  have hne : some w.heap.size ≠ (Value.slice Av l0.length cv).ownBlock := Kd.R_ne HO.out HX1.out (by decide)
  refine ⟨_, rfl, blk_put (cs := #[.slice (some ⟨g, 0, none⟩) l0.length c0]) HX1.out 0 _ rfl, ?_, below_set HB1.out (Nat.le_refl _)⟩
  obtain ⟨h0, inner, ho, hr⟩ := Kd.R_lower HO.out (base' := w.heap.size) (by have := HSZ.out; omega)
  exact ⟨h0, inner, own_setCell ho hne _, hr.imp_ (fun _ _ hp => hp)⟩
theorem cell_of_heap {w W : World} {a : Addr} (h : W.heap[a.block]? = w.heap[a.block]?) : W.cell? a = w.cell? a := by unfold World.cell?; rw [h]
theorem C_same {w W : World} {A : Option Addr} {n : Nat} {xs : List Int} (h : Kd.C (Kd.int .u8) w A n xs) (hk : ∀ ad, A = some ad → W.heap[ad.block]? = w.heap[ad.block]?) : Kd.C (Kd.int .u8) W A n xs := by
  refine ⟨h.1, h.2.1, fun hn => ?_⟩
  obtain ⟨ad, hA, hc⟩ := h.2.2 hn
  refine ⟨ad, hA, fun i p hp => ?_⟩
  obtain ⟨cs, hl, hK, hcell⟩ := hc i p hp
  refine ⟨cs, hl, hK, fun j u hu => ?_⟩
  have := hcell j u hu
  rw [← this]
  exact cell_of_heap (by unfold Addr.add; split <;> exact hk ad hA)
set_option maxHeartbeats 8000000 in
set_option maxRecDepth 100000 in
theorem all1_pre (l : Nat) (n₀ Bn : Nat) (S : Nat → Prop) (A : Option Addr) (c : Nat) (b : List Int) (hb : Bytes b) (hlen : b.length ≤ 1099511627776) (hc : b.length ≤ c) (J Jx : List Gone → World → Prop) (W : World) (hn : n₀ ≤ W.heap.size)
    (hread : ∀ W', KpS n₀ S W W' → Kd.C (Kd.int .u8) W' A b.length b ∧ W'.cell? ⟨Bn, 0, none⟩ = some (.slice A b.length c))
    (hJ : ∀ pre W1 W2, J pre W1 → Below W1.heap.size W1 W2 → J pre W2)
    (hY : ∀ pre x W1, J pre W1 → pre ++ [x] <+: goneL b → YieldAt Fence.wide 1 Try.prog l (encG x) W1 fun e W' =>
      (e = .returned (.bool true) ∧ J (pre ++ [x]) W' ∧ KpS n₀ S W1 W') ∨ (e = .returned (.bool false) ∧ Jx (pre ++ [x]) W'))
    (h0 : J [] W) :
    CallsIn Fence.wide 2 Try.prog 76 #[.func (.yield l) #[] #[], .pointer (some ⟨Bn, 0, none⟩)] W fun e W' => (∃ v, e = .returned v) ∧
      ((∃ ys, ys = goneL b ∧ J ys W') ∨ (∃ pre, pre <+: goneL b ∧ Jx pre W')) := by
  have HREAD := Aside0.mk hread
  have HJ := Aside0.mk hJ
  have HY := Aside0.mk hY
  have H0 := Aside0.mk h0
  have HBY := Aside0.mk hb
  have HC := Aside0.mk hc
  have HN := Aside0.mk hn
  have HLEN := Aside0.mk hlen
  have HHD := Aside0.mk (head_eq 10 b hb hlen (Nat.le_refl _))
  have hcell := (hread W (KpS.refl _ _ _)).2
  have hs8 := seg8_small b hb
  have hs4 := seg4_small b hb
  have HL := Aside0.mk (rfl : goneL b = goneL b)
  clear hread hJ hY h0 hb hc hn hlen
  unfold headR at HHD
  by_cases h12 : b.length < 12
  · rw [if_pos h12] at HHD
    refine callsIn_of_wp Try.func76 rfl trivial ?_ rfl
    simp only [Try.ntmps76, List.size_toArray, List.length_cons, List.length_nil, Nat.reduceAdd, Nat.reduceSub, Array.replicate_succ, Array.replicate_zero, List.push_toArray, List.append_toArray, List.nil_append, List.cons_append]
    gi_wp2_with fail
    refine ⟨trivial, ?_⟩
    (with_reducible refine (callsIn_wide.2 (batch_Head.calls 10 A c b _ _ _ _ (HREAD.out _ (KpS.refl _ _ _)).1 HC.out HHD.out)).mono ?_)
    rintro e w1 ⟨rfl, hd⟩
    have HJ1 := Aside0.mk (HJ.out _ _ _ H0.out hd.below)
    clear hd
    gi_wp2
    refine bodyPost_ret (results_none rfl _ _ _) rfl ?_
    exact ⟨⟨_, rfl⟩, .inl ⟨[], by unfold goneL; rw [if_pos h12], HJ1.out⟩⟩
  · rw [if_neg h12] at HHD
    obtain ⟨cnt, hcnt⟩ := Int.eq_ofNat_of_zero_le hs4.1
    obtain ⟨L, hLL⟩ : ∃ L, goneL b = L := ⟨_, rfl⟩
    have HLL := Aside0.mk hLL
    obtain ⟨seq, hseq⟩ : ∃ seq, le (seg b 0 8) = seq := ⟨_, rfl⟩
    rw [hcnt, hseq] at HHD
    have hL0 : L = gos b seq cnt 0 12 := by rw [← hLL]; unfold goneL; rw [if_neg h12, hcnt, Int.toNat_natCast, hseq]
    have HL0 := Aside0.mk hL0
    have hc4 : cnt < 4294967296 := by omega
    have hseq0 : 0 ≤ seq ∧ seq < 18446744073709551616 := by omega
    rw [hLL]
    rw [hLL] at HY
    clear HL hLL hcnt hs4 hs8 hseq hL0 h12
    refine callsIn_of_wp Try.func76 rfl trivial ?_ rfl
    simp only [Try.ntmps76, List.size_toArray, List.length_cons, List.length_nil, Nat.reduceAdd, Nat.reduceSub, Array.replicate_succ, Array.replicate_zero, List.push_toArray, List.append_toArray, List.nil_append, List.cons_append]
    gi_wp2_with fail
    refine ⟨trivial, ?_⟩
    (with_reducible refine (callsIn_wide.2 (batch_Head.calls 10 A c b _ _ _ _ (HREAD.out _ (KpS.refl _ _ _)).1 HC.out HHD.out)).mono ?_)
    rintro e w1 ⟨rfl, hd⟩
    have HJ1 := Aside0.mk (HJ.out _ _ _ H0.out hd.below)
    have HK1 := Aside0.mk ((KpS.refl n₀ S W).below HN.out hd.below)
    clear hd hcell
    gi_wp2
    gi_loopw [6, 20] (fun v6 v20 wr => ∃ (pre : List Gone) (i : Nat) (p : Int), v6 = .int .i64 p ∧ v20 = .int .i64 (i : Int) ∧ i ≤ cnt ∧ 0 ≤ p ∧ Aside0 (L = pre ++ gos b seq (cnt - i) i p) ∧ Aside0 (J pre wr) ∧ Aside0 (KpS n₀ S W wr)) (fun _ v20 _ => cnt - (intOf v20).toNat)
    case atStart => exact ⟨[], 0, 12, rfl, rfl, by omega, by omega, HL0, HJ1, HK1⟩
    case round =>
      clear HL0 HJ1 HK1
      obtain ⟨pre, i, p, rfl, rfl, hi, hp, HL, HJS, HK⟩ := hrel
      have hcell := (HREAD.out wr HK.out).2
      have hnr : n₀ ≤ wr.heap.size := Nat.le_trans HN.out HK.out.1
      have HNR := Aside0.mk hnr
      clear hnr
      by_cases hlt : i < cnt
      · have b1 : decide ((i : Int) < (cnt : Int)) = true := decide_eq_true (by omega)
        have hL := HL.out
        rw [show cnt - i = (cnt - (i + 1)) + 1 by omega] at hL
        simp only [gos] at hL
        obtain ⟨R, hR⟩ : ∃ R, rdR b p = R := ⟨_, rfl⟩
        have HRD := Aside0.mk (batch_read_calls A c b p wr (HREAD.out wr HK.out).1 HC.out HBY.out HLEN.out hp)
        rw [hR] at hL HRD
        obtain ⟨x, q, ok⟩ := R
        simp only [] at hL
        clear HL
        gi_wp2_with fail
        refine ⟨trivial, ?_⟩
        (with_reducible refine (callsIn_wide.2 HRD.out).mono ?_)
        rintro e w2 ⟨rfl, hb2⟩
        have HJ2 := Aside0.mk (HJ.out _ _ _ HJS.out hb2)
        have HK2 := Aside0.mk (HK.out.below HNR.out hb2)
        clear hb2
        cases ok with
        | false =>
          rw [if_neg Bool.false_ne_true, List.append_nil] at hL
          have HL3 := Aside0.mk hL
          have HJ3 := Aside0.mk (HJ.out _ _ _ HJ2.out (below_alloc (Below.refl _ _) (.cells #[.int .i64 x.f0, .string x.f1, .string x.f2] 65)))
          clear hL
          gi_wp2
          refine ⟨fun _ h => (by cases h), ?_⟩
          gi_wp2
          refine bodyPost_ret (results_none rfl _ _ _) rfl ?_
          exact ⟨⟨_, rfl⟩, .inl ⟨pre, HL3.out.symm, HJ3.out⟩⟩
        | true =>
          rw [if_pos rfl] at hL
          have HL3 := Aside0.mk hL
          have hlp : pre ++ [(IntKind.u64.wrap (seq + (i : Int)), x, q)] <+: L := ⟨gos b seq (cnt - (i + 1)) (i + 1) q, by rw [hL]; simp⟩
          have HJ3 := Aside0.mk (HJ.out _ _ _ HJ2.out (below_alloc (Below.refl _ _) (.cells #[.int .i64 x.f0, .string x.f1, .string x.f2] 65)))
          have HK3 := Aside0.mk (HK2.out.below (Nat.le_trans HN.out HK2.out.1) (below_alloc (Below.refl _ _) (.cells #[.int .i64 x.f0, .string x.f1, .string x.f2] 65)))
          obtain ⟨fn, tmps, assign, body, hy, hR2⟩ := HY.out pre (IntKind.u64.wrap (seq + (i : Int)), x, q) _ HJ3.out hlp
          simp only [encG] at hy
          have eu : IntKind.u64.wrap (i : Int) = (i : Int) := by rw [Go.IntKind.wrap_u64]; omega
          have hq := (rdR_next b HBY.out HLEN.out p (by rw [hR])).1
          rw [hR] at hq
          have ew : wrap64 ((i : Int) + 1) = ((i + 1 : Nat) : Int) := by unfold wrap64; omega
          clear hL hlp
          gi_wp2
          refine hR2.mono ?_
          rintro e W3 (⟨rfl, hJ4, hk4⟩ | ⟨rfl, hJx4⟩)
          · have HJ4 := Aside0.mk hJ4
            have HK4 := Aside0.mk (HK3.out.trans hk4)
            have HL4 := Aside0.mk (show L = (pre ++ [(IntKind.u64.wrap (seq + (i : Int)), x, q)]) ++ gos b seq (cnt - (i + 1)) (i + 1) q by rw [HL3.out]; simp)
            clear hJ4 hk4 hR2
            gi_wp2
            go_roundw
            case rel => exact ⟨_, i + 1, q, rfl, by go_num, by omega, hq, HL4, HJ4, HK4⟩
            case measure => simp only [intOf]; omega
          · have HL4 := Aside0.mk (show (pre ++ [(IntKind.u64.wrap (seq + (i : Int)), x, q)]) <+: L by rw [HL3.out]; exact ⟨gos b seq (cnt - (i + 1)) (i + 1) q, by simp⟩)
            have HJX := Aside0.mk hJx4
            clear hJx4
            gi_wp2
            refine bodyPost_ret (results_none rfl _ _ _) rfl ?_
            exact ⟨⟨_, rfl⟩, .inr ⟨_, HL4.out, HJX.out⟩⟩
      · obtain rfl : i = cnt := by omega
        have b1 : decide ((i : Int) < (i : Int)) = false := decide_eq_false (by omega)
        have hL := HL.out
        rw [Nat.sub_self] at hL
        simp only [gos, List.append_nil] at hL
        have HL3 := Aside0.mk hL
        clear hL HL
        gi_wp2
        go_end0
        exact ⟨⟨_, rfl⟩, .inl ⟨pre, HL3.out.symm, HJS.out⟩⟩
theorem ownFrom_mono {β : Type} {B B' : Nat} {I : β → World → Prop} (h : OwnFrom B I) (hB : B ≤ B') : OwnFrom B' I := fun s X Y row hs hg hr => h s X Y row hs hg (fun r e => ⟨Nat.le_trans hB (hr r e).1, (hr r e).2⟩)
theorem all_rich (Bn : Nat) (A : Option Addr) (c : Nat) (b : List Int) (V : Nat → Prop) (w : World) (hb : Bytes b) (hlen : b.length ≤ 1099511627776) (hc : b.length ≤ c)
    (hC : Kd.C (Kd.int .u8) w A b.length b) (hbox : w.heap[Bn]? = some (.cells #[.slice A b.length c] 33 (0, 0))) (hA : ∀ ad, A = some ad → ad.block < w.heap.size ∧ ¬ V ad.block) (hVn : ¬ V Bn) :
    SeqRich Fence.wide 2 Try.prog 76 #[.pointer (some ⟨Bn, 0, none⟩)] encG V (fun ys => ys = goneL b) (fun pre => pre <+: goneL b) w := by
  intro l J Jx W hW hwl hlW hJ hJx hY h0
  have hBn := blk_lt hbox
  have hsW := hW.size
  refine (all1_pre l W.heap.size Bn (fun k => V k ∨ k = l) A c b hb hlen hc (fun pre X => J pre X ∧ W.heap.size ≤ X.heap.size) Jx W (Nat.le_refl _) ?_ ?_ ?_ ⟨h0, Nat.le_refl _⟩).mono ?_
  · intro W' hK
    refine ⟨C_same (Kd.C_below hC hW) fun ad e => hK.2 _ (by have := (hA ad e).1; omega) ?_, (show Boxed W' Bn 33 (.slice A b.length c) from (hK.2 _ (by omega) ?_).trans ((hW.block _ hBn).trans hbox)).cell⟩
    · rintro (h | h)
      · exact (hA ad e).2 h
      · have := (hA ad e).1; omega
    · rintro (h | h)
      · exact hVn h
      · omega
  · rintro pre W1 W2 ⟨hs, hz⟩ hb2
    exact ⟨hJ pre W1 W2 none hs (grown_of_below hb2 none) (fun r e => by cases e), Nat.le_trans hz hb2.size⟩
  · rintro pre x W1 ⟨hs, hz⟩ hp
    refine (hY pre x W1 hs hz hp).mono ?_
    rintro e W' ⟨hlv, (⟨rfl, hj⟩ | ⟨rfl, hj⟩)⟩
    · exact .inl ⟨rfl, ⟨hj, Nat.le_trans hz hlv.1⟩, hlv.1, fun k hk hn => hlv.2 k (by omega) hn⟩
    · exact .inr ⟨rfl, hj⟩
  · rintro e W' ⟨hv, (⟨ys, h1, h2⟩ | ⟨pre, h1, h2⟩)⟩
    · exact ⟨hv, .inl ⟨ys, h1, h2.1⟩⟩
    · exact ⟨hv, .inr ⟨pre, h1, h2⟩⟩
def encW (g : Gone) : Array Value := #[.int .u64 g.1, .agg #[.int .i64 g.2.1.f0, .string g.2.1.f1, .string g.2.1.f2]]
/-- a round's activation -/
def walkAx (l Bn : Nat) (A : Option Addr) (c : Nat) (b : List Int) (m : Nat) (g : Gone) (a' : Act) (X : World) : Prop :=
  ∃ Bx, m + 2 ≤ Bx ∧ X.heap[Bx]? = some (.cells (goneCells g) 100 (0, 0)) ∧ a' = { tmps := #[.func (.yield l) #[] #[], .pointer (some ⟨Bn, 0, none⟩), .pointer (some ⟨m, 0, none⟩), .pointer (some ⟨Bx, 0, none⟩), .slice A b.length c, .func (.func 76) #[] #[.pointer (some ⟨m + 1, 0, none⟩)], .agg (goneCells g), undef, undef, undef, undef, undef, undef, undef], defers := [] }
def WalkI (J : List Gone → World → Prop) (l m : Nat) (pre : List Gone) (X : World) : Prop := J pre X ∧ X.heap[m]? = some (.cells #[.func (.yield l) #[] #[]] 107 (0, 0)) ∧ m + 2 ≤ X.heap.size
set_option maxHeartbeats 8000000 in
set_option maxRecDepth 100000 in
theorem walk1_rich (Bn : Nat) (A : Option Addr) (c : Nat) (b : List Int) (V : Nat → Prop) (w : World) (hb : Bytes b) (hlen : b.length ≤ 1099511627776) (hc : b.length ≤ c)
    (hC : Kd.C (Kd.int .u8) w A b.length b) (hbox : w.heap[Bn]? = some (.cells #[.slice A b.length c] 33 (0, 0))) (hA : ∀ ad, A = some ad → ad.block < w.heap.size ∧ ¬ V ad.block) (hVn : ¬ V Bn) (hV : ∀ k, V k → k < w.heap.size) :
    SeqRich Fence.wide 3 Try.prog 69 #[.pointer (some ⟨Bn, 0, none⟩)] encW V (fun ys => ys = goneL b) (fun pre => pre <+: goneL b) w := by
  intro l J Jx W hW hwl hlW hJ hJx hY h0
  have hBn := blk_lt hbox
  have hsW := hW.size
  have HBY := Aside0.mk hb
  have HLEN := Aside0.mk hlen
  have HC := Aside0.mk hc
  have HJ := Aside0.mk hJ
  have HJX := Aside0.mk hJx
  have HY := Aside0.mk hY
  have HV := Aside0.mk hV
  obtain ⟨W1, hW1⟩ : ∃ W1, W.alloc (.cells #[.func (.yield l) #[] #[]] 107) = W1 := ⟨_, rfl⟩
  have z1 : W1.heap.size = W.heap.size + 1 := by rw [← hW1, World.size_alloc]
  have p1 : W1.heap[W.heap.size]? = some (.cells #[.func (.yield l) #[] #[]] 107 (0, 0)) := by rw [← hW1]; exact World.alloc_heap_new _ _
  have b1 : Below W.heap.size W W1 := by rw [← hW1]; exact below_alloc (Below.refl _ _) _
  have n1 : W1.heap[Bn]? = some (.cells #[.slice A b.length c] 33 (0, 0)) := (b1.block _ (by omega)).trans ((hW.block _ hBn).trans hbox)
  have cn1 := blk_cell n1 0
  rw [← hW1] at cn1
  obtain ⟨W2, hW2⟩ : ∃ W2, W1.alloc (.cells #[.slice A b.length c] 33) = W2 := ⟨_, rfl⟩
  have z2 : W2.heap.size = W.heap.size + 2 := by rw [← hW2, World.size_alloc, z1]
  have b2 : Below W1.heap.size W1 W2 := by rw [← hW2]; exact below_alloc (Below.refl _ _) _
  have p2 : W2.heap[W.heap.size]? = some (.cells #[.func (.yield l) #[] #[]] 107 (0, 0)) := (b2.block _ (by omega)).trans p1
  have q2 : W2.heap[W.heap.size + 1]? = some (.cells #[.slice A b.length c] 33 (0, 0)) := by
    have := World.alloc_heap_new W1 (.cells #[.slice A b.length c] 33)
    rw [z1, hW2] at this
    exact this
  have j2 : J [] W2 := by
    have h1 : J [] W1 := by rw [← hW1]; exact hJ.alloc _ h0
    rw [← hW2]; exact hJ.alloc _ h1
  have HJ2 := Aside0.mk j2
  have HP2 := Aside0.mk p2
  have HQ2 := Aside0.mk q2
  have HC2 := Aside0.mk (show Kd.C (Kd.int .u8) W2 A b.length b from Kd.C_below (Kd.C_below hC hW) (below_step b1 b2))
  have HA := Aside0.mk hA
  have HW1 := Aside0.mk hW1
  have HW2 := Aside0.mk hW2
  clear hb hlen hc hJ hJx hY h0 hV j2 p2 q2 p1 b2 b1 n1 hA hC hbox hW1 hW2
  refine callsIn_of_wp_marks Try.func69 rfl trivial ?_ rfl
  simp only [Try.ntmps69, List.size_toArray, List.length_cons, List.length_nil, Nat.reduceAdd, Nat.reduceSub, Array.replicate_succ, Array.replicate_zero, List.push_toArray, List.append_toArray, List.nil_append, List.cons_append]
  gi_wp2_with fail
  refine ⟨trivial, ?_⟩
  (with_reducible refine (callsIn_wide.2 (all_calls A b.length c _)).mono ?_)
  rintro e w2 ⟨rfl, rfl⟩
  rw [HW1.out, HW2.out, z1]
  gi_wp2_with fail
  refine rich_range (n := 3) (F := Fence.wide) rfl (by decide) (gf := 76) (lb := #[.pointer (some ⟨W.heap.size + 1, 0, none⟩)]) rfl trivial (enters_of Try.func76 (by kernel_rfl) rfl)
    (all_rich (W.heap.size + 1) A c b (fun k => V k ∨ k = l) W2 HBY.out HLEN.out HC.out HC2.out HQ2.out ?adr ?vn) ?vlt (Below.refl _ _) (fun _ => rfl)
    (WalkI J l W.heap.size) (fun cd pre X => cd = Code.ret ∧ Jx pre X) ?own ?ownx ?init (walkAx l Bn A c b W.heap.size) ?ax ?assign ?body ?done ?stop
  case adr =>
    intro ad e
    have h1 := (HA.out ad e).1
    refine ⟨by omega, ?_⟩
    rintro (h | h)
    · exact (HA.out ad e).2 h
    · omega
  case vn =>
    rintro (h | h)
    · have := HV.out _ h; omega
    · omega
  case vlt =>
    rintro k (h | h)
    · have := HV.out _ h; omega
    · omega
  case own =>
    rintro pre X Y row ⟨h1, h2, h3⟩ hg hr
    exact ⟨ownFrom_mono HJ.out (show W.heap.size ≤ W2.heap.size by omega) pre X Y row h1 hg hr, cells_own _ _ _ X Y row h2 hg (fun r e => (hr r e).2), Nat.le_trans h3 hg.size⟩
  case ownx =>
    rintro cd pre X Y row ⟨h1, h2⟩ hg hr
    exact ⟨h1, ownFrom_mono HJX.out (show W.heap.size ≤ W2.heap.size by omega) pre X Y row h2 hg hr⟩
  case init => exact ⟨HJ2.out, HP2.out, by omega⟩
  case ax =>
    rintro g a' _ X Y row ⟨Bx, h1, h2, h3⟩ hg hr
    exact ⟨Bx, h1, cells_own Bx _ _ X Y row h2 hg (fun r e => (hr r e).2), h3⟩
  case assign =>
    rintro pre g X K hX ⟨hj, hp, hs⟩ hK
    simp only [encG]
    gi_wp2
    exact hK _ _ (Leave.alloc X _) ⟨(ownFrom_mono HJ.out (Nat.le_refl _)).alloc _ hj, (Below.heap_alloc X _ _ (blk_lt hp)).trans hp, by rw [World.size_alloc]; omega⟩ ⟨X.heap.size, hs, World.alloc_heap_new X _, rfl⟩
  case body =>
    rintro pre g a' X hX hr ⟨hj, hp, hs⟩ ⟨Bx, hBx, hbx, rfl⟩ hlt
    have hp0 := blk_cell hp 0
    obtain ⟨fn, tmps, assign, body, hy, hR⟩ := yield_any (F := Fence.wide) rfl 0 (HY.out pre g X hj (by omega) hlt)
    have hR : RoundIn (Fence.wide.inRound (W.heap.size + 2 + 1)) 0 Try.prog l fn tmps assign body X _ := hR
    have HR := Aside0.mk hR
    have HGP := Aside0.mk (show X.heap[W.heap.size]? = some (.cells #[.func (.yield l) #[] #[]] 107 (0, 0)) from hp)
    clear hR hlt hr hX hp
    obtain ⟨g1, ⟨g2, g3, g4⟩, g5⟩ := g
    have hbx' : X.heap[Bx]? = some (.cells #[.int .u64 g1, .int .i64 g2, .string g3, .string g4, .int .i64 g5] 100 (0, 0)) := hbx
    have hc0 : X.cell? ⟨Bx, 0, none⟩ = some (.int .u64 g1) := by simp [World.cell?, hbx']
    have hc1 : X.cell? ⟨Bx, 1, none⟩ = some (.int .i64 g2) := by simp [World.cell?, hbx']
    have hc2 : X.cell? ⟨Bx, 2, none⟩ = some (.string g3) := by simp [World.cell?, hbx']
    have hc3 : X.cell? ⟨Bx, 3, none⟩ = some (.string g4) := by simp [World.cell?, hbx']
    simp only [encW] at hy
    clear hbx hbx'
    gi_wp2
    refine HR.out.mono ?_
    rintro e X3 ⟨hlv, (⟨rfl, hj3⟩ | ⟨rfl, hjx3⟩)⟩
    · have HI3 := Aside0.mk (show WalkI J l W.heap.size (pre ++ [(g1, ⟨g2, g3, g4⟩, g5)]) X3 from ⟨hj3, (hlv.get HGP.out (by
        rintro (h | h)
        · have := HV.out _ h; omega
        · omega)), Nat.le_trans hs hlv.1⟩)
      have HLV := Aside0.mk hlv
      clear hj3 hlv HR
      gi_wp2
      exact ⟨HLV.out, HI3.out⟩
    · have HLV := Aside0.mk hlv
      have HJX3 := Aside0.mk hjx3
      clear hjx3 hlv HR
      gi_wp2
      exact ⟨HLV.out, rfl, HJX3.out⟩
  case done =>
    rintro ys X rfl ⟨hj, hp, hs⟩ hK
    gi_wp2
    refine ⟨by simp, .inl ⟨_, _, rfl, run_takeDeferred hK, ?_⟩⟩
    exact ⟨_, results_none rfl _ _ _, ⟨_, rfl⟩, .inl ⟨_, rfl, HJ.out.putObj _ hj (by omega) hK rfl⟩⟩
  case stop =>
    rintro cd pre X hSp ⟨rfl, hjx⟩ hK
    gi_wp2
    refine ⟨by simp, .inl ⟨_, _, rfl, run_takeDeferred hK, ?_⟩⟩
    exact ⟨_, results_none rfl _ _ _, ⟨_, rfl⟩, .inr ⟨_, hSp, HJX.out.putObj _ hjx (by omega) hK rfl⟩⟩

end Go.Proofs.Ythkooncibfkepaa.G

/- Contracts typed by hand: a range over such an iterator, where a round may be left by a break only: both ways out go on alike -/
namespace Go.Proofs.Ythkooncibfkepaa.G
open Go.RowKit Go.Proofs.YthkooncibfkepaaW.PrintWords Go.Proofs.YthkooncibfkepaaW.PrintLast Go.Proofs.YthkooncibfkepaaW.PrintMore
attribute [local go_sem] max2_int min2_int max_two min_two max_three min_three max_four min_four
set_option linter.unusedVariables false
set_option linter.unusedSimpArgs false

/-! a range over such an iterator, where a round may be left by a break only: both ways out go on alike -/
open Go.Shelf
theorem rich_range2 {α : Type} {F : Fence} {n : Nat} {P : Program} {g : Operand} {ps : Array Tmp} {assign body : Code} {Q : Exit → Act → World → Prop} {a : Act} {w : World} (id : Nat)
    (hro : F.round = none) (h1 : 1 ≤ n) {gf : Nat} {lb : Array Value} (hg : a.eval g = .func (.func gf) #[] lb) (hFg : F.fn gf) (eg : ∀ args w, (callFunc gf args).run P w = .ok (.enter gf args) w)
    {encs : α → Array Value} {V : Nat → Prop} {S Sp : List α → Prop} {w0 : World} (hseq : SeqRich F (n - 1) P gf lb encs V S Sp w0) (hV : ∀ k, V k → k < w.heap.size) (hb0 : Below w0.heap.size w0 w) (hps : ∀ x, (encs x).size = ps.size)
    (I Ix : List α → World → Prop) (hI : OwnFrom w.heap.size I) (hIx : OwnFrom w.heap.size Ix) (h0 : I [] w) (Ax : α → Act → World → Prop) (hAx : ∀ x a', OwnFrom w.heap.size (fun (_ : Unit) W => Ax x a' W))
    (hassign : ∀ (pre : List α) (x : α) (W : World) (K : Act → World → Prop), w.heap.size + 2 ≤ W.heap.size → I pre W → (∀ a' W', Leave V W W' → I pre W' → Ax x a' W' → K a' W') →
      assign.wpIn (F.inRound (w.heap.size + 1)) (n - 1 - 1) P (Exit.then K (fun _ _ _ => False)) { tmps := (ps.zip (encs x)).foldl (fun t (p, v) => t.setIfInBounds p v) a.tmps, defers := [] } W)
    (hbody : ∀ (pre : List α) (x : α) (a' : Act) (W : World), w.heap.size + 2 ≤ W.heap.size → (∃ r, W.heap[w.heap.size + 1]? = some (.loop r)) → I pre W → Ax x a' W → Sp (pre ++ [x]) → body.wpIn (F.inRound (w.heap.size + 1)) (n - 1 - 1) P (leavePost V I (fun c xs W' => c = .exit id ∧ Ix xs W') (pre ++ [x]) W) a' W)
    (hend : ∀ (e : Exit) (W : World), (e = .normal ∨ e = .exit id) → ((∃ xs, S xs ∧ I xs W) ∨ (∃ pre, Sp pre ∧ Ix pre W)) → W.heap[w.heap.size]? = some (.deferred (some [])) → Q e { a with defers := { target := .collected w.heap.size, args := #[] } :: a.defers } W) :
    (Code.rangeFunc g ps assign body).wpIn F n P Q a w := by
  refine rich_range hro h1 hg hFg eg hseq hV hb0 hps I (fun c xs W' => c = .exit id ∧ Ix xs W') hI (fun c s X Y row hs hgr hr => ⟨hs.1, hIx s X Y row hs.2 hgr hr⟩) h0 Ax hAx hassign hbody ?_ ?_
  · intro xs W hS hi hk
    exact hend .normal W (.inl rfl) (.inl ⟨xs, hS, hi⟩) hk
  · rintro c pre W hSp ⟨rfl, hx⟩ hk
    exact wpIn_exit (hend (.exit id) W (.inr rfl) (.inr ⟨pre, hSp, hx⟩) hk)

end Go.Proofs.Ythkooncibfkepaa.G

/- Contracts typed by hand: a region that draws its order and only reads, in a round of a range over a function -/
namespace Go.Proofs.Ythkooncibfkepaa.G
open Go.RowKit Go.Proofs.YthkooncibfkepaaW.PrintWords Go.Proofs.YthkooncibfkepaaW.PrintLast Go.Proofs.YthkooncibfkepaaW.PrintMore
attribute [local go_sem] max2_int min2_int max_two min_two max_three min_three max_four min_four
set_option linter.unusedVariables false
set_option linter.unusedSimpArgs false

/-! a region that draws its order and only reads, in a round of a range over a function -/
theorem op_round {F : Fence} {n : Nat} {P : Program} {o : Oper} {a : Act} {w : World} {next : Act → World → Prop} {Q : Exit → Act → World → Prop} (r : Nat) (hro : F.round = none) (hd : ∀ c, o.op ≠ .defer c)
    (h : o.wpIn F n P a w next Q) : o.wpIn (F.inRound r) n P a w next Q := by
  have h2 := h.2
  rw [hro] at h2
  refine ⟨h.1, ?_⟩
  have e : o.semAt (F.inRound r).round a.eval = o.semAt none a.eval := by
    show o.semAt (some r) a.eval = o.semAt none a.eval
    rw [Oper.semAt_some r _ _ hd]
    unfold Oper.semAt
    cases ho : o.op <;> first | rfl | exact absurd ho (hd _)
  rw [e]
  exact h2
theorem any_round {F : Fence} {n : Nat} {P : Program} {md : Region.Mode} {ops : Array Oper} {Q : Exit → Act → World → Prop} (r : Nat) (hro : F.round = none) (hd : ∀ (i : Nat) (o : Oper), ops[i]? = some o → ∀ c, o.op ≠ .defer c) :
    ∀ (fuel : Nat) (listed : Array Bool) (a : Act) (w : World), wpAnyIn F n P md ops Q fuel listed a w → wpAnyIn (F.inRound r) n P md ops Q fuel listed a w
  | 0, _, _, _, h => h
  | fuel + 1, listed, a, w, h => by
    refine ⟨h.1, fun i hi => ?_⟩
    have hx := h.2 i hi
    unfold wpOpIn at hx ⊢
    cases ho : ops[i]? with
    | none =>
      rw [ho] at hx
      exact any_round r hro hd fuel _ a w hx
    | some o =>
      rw [ho] at hx
      dsimp only at hx ⊢
      by_cases hw : Region.wanted o (yielded ops a.tmps) = true
      · rw [if_pos hw] at hx ⊢
        exact Oper.wpIn_mono (fun a w q => any_round r hro hd fuel _ a w q) (op_round r hro (hd i o ho) hx)
      · rw [if_neg hw] at hx ⊢
        exact ⟨hx.1, any_round r hro hd fuel _ _ w hx.2⟩
def plainOps (l : List Oper) : Bool := l.all fun o => match o.op with | .defer _ => false | _ => true
theorem plainOps_spec {l : List Oper} (h : plainOps l = true) (i : Nat) (o : Oper) (ho : l.toArray[i]? = some o) : ∀ c, o.op ≠ .defer c := by
  intro c hc
  have hm : o ∈ l := by
    rw [List.getElem?_toArray] at ho
    exact List.mem_of_getElem? ho
  have := List.all_eq_true.1 h o hm
  rw [hc] at this
  simp at this
theorem region_quiet_round {F : Fence} {n : Nat} {P : Program} {r id : Nat} {Q : Exit → Act → World → Prop} {a : Act} {w : World} {l : List Oper} (hro : F.round = none) (hm : P.follows .mixedOrders = true) (hB : Region.lexB .any l.toArray = true) (hd : plainOps l = true)
    (h : wpQuietIn F n P l.toArray (fun w' => ∃ n, w' = w.drewN n) (fun a' => ∀ w', (∃ n, w' = w.drewN n) → Q .normal a' w') l a) : (Code.region id l.toArray true).wpIn (F.inRound r) n P Q a w := by
  simp only [Region.lexB, Bool.and_eq_true] at hB
  refine wpIn_region_any hm (any_round r hro (plainOps_spec hd) _ _ _ _ (wpAnyIn_of_quiet (C := fun w' => ∃ n, w' = w.drewN n) (Q := fun a' => ∀ w', (∃ n, w' = w.drewN n) → Q .normal a' w') hro (fun _ w' hw' h => h w' hw') _ _ _ _ ⟨1, rfl⟩ ?_))
  have := wpAnyQIn_lex (F := F) (n := n) (C := fun w' => ∃ n, w' = w.drewN n) (md := .any) hB.1 l 0 (Array.replicate l.toArray.size false) a (by simp) (by simpa using hB.2) h
  simpa using this

end Go.Proofs.Ythkooncibfkepaa.G

/- Contracts typed by hand: plain laws of reading a batch: what is put is read, what is read was put -/
namespace Go.Proofs.Ythkooncibfkepaa.G
open Go.RowKit Go.Proofs.YthkooncibfkepaaW.PrintWords Go.Proofs.YthkooncibfkepaaW.PrintLast Go.Proofs.YthkooncibfkepaaW.PrintMore
attribute [local go_sem] max2_int min2_int max_two min_two max_three min_three max_four min_four
set_option linter.unusedVariables false
set_option linter.unusedSimpArgs false

/-! plain laws of reading a batch: what is put is read, what is read was put -/
theorem Text_put (a c : List Int) (s : ByteArray) (hl : (a ++ encText s ++ c).length ≤ 140737488355328) : codec_Text.f (a ++ encText s ++ c) a.length = some (s, (a.length : Int) + ((encText s).length : Int), 0) := by
  have hlen : (a ++ encText s ++ c).length = a.length + (encText s).length + c.length := by rw [List.length_append, List.length_append]
  have hel : (encText s).length = (enc (s.size : Int)).length + s.size := by unfold encText; rw [List.length_append, bytesOf_length]
  have e : a ++ encText s ++ c = a ++ enc (s.size : Int) ++ (bytesOf s ++ c) := by unfold encText; simp
  have hv := Varint_put a (bytesOf s ++ c) (s.size : Int) (by omega) (by omega) (by rw [← e]; exact hl)
  rw [← e] at hv
  unfold codec_Text.f
  rw [hv]
  simp only [Option.bind_some, if_true]
  rw [if_pos (by omega), if_pos (by omega), if_pos (by omega), if_pos (by omega), if_neg (by omega)]
  have t1 : ((a.length : Int) + ((enc (s.size : Int)).length : Int) + (s.size : Int)).toNat = (a ++ encText s).length := by rw [List.length_append, hel]; omega
  have t2 : ((a.length : Int) + ((enc (s.size : Int)).length : Int)).toNat = (a ++ enc (s.size : Int)).length := by rw [List.length_append]; omega
  have t3 : a ++ encText s = (a ++ enc (s.size : Int)) ++ bytesOf s := by unfold encText; simp
  rw [t1, t2, List.take_left, t3, List.drop_left, strOfNums_bytesOf]
  congr 2
  rw [hel]
  congr 1
  omega
theorem bytesOf_nums (l : List Int) (hb : Bytes l) : bytesOf (strOfNums l) = l := by
  unfold bytesOf strOfNums
  simp only [List.map_map]
  conv => rhs; rw [← List.map_id l]
  apply List.map_congr_left
  intro x hx
  have := hb x hx
  simp
  omega
theorem nums_size (l : List Int) : (strOfNums l).size = l.length := by
  rw [← bytesOf_length]
  unfold bytesOf
  rw [List.length_map, strOfNums_data, List.length_map]
theorem Varint_at (l : List Int) (p w n : Int) (hb : Bytes l) (h : codec_Varint.f l p = some (w, n, 0)) : ∃ a c, l = a ++ enc w ++ c ∧ (a.length : Int) = p ∧ n = p + (enc w).length := by
  unfold codec_Varint.f at h
  by_cases h0 : p < 0
  · rw [if_pos h0] at h; simp at h
  · rw [if_neg h0] at h
    by_cases h1 : p > (l.length : Int)
    · rw [if_pos h1] at h; simp at h
    · rw [if_neg h1] at h
      by_cases hl : (l.length : Int) ≤ 281474976710656
      · rw [if_pos hl] at h
        simp only [Option.some.injEq] at h
        obtain ⟨u, _, _, hw, hn, ht, hx⟩ := go_was p (l.drop p.toNat) 0 0 w n (by omega) fits0 (hb.drop _) h
        rw [up_zero] at hw
        subst hw
        refine ⟨l.take p.toNat, (l.drop p.toNat).drop (enc w).length, ?_, ?_, ?_⟩
        · have e1 : enc w = (l.drop p.toNat).take (enc w).length := ht.symm
          conv => lhs; rw [← List.take_append_drop p.toNat l, ← List.take_append_drop (enc w).length (l.drop p.toNat), ← e1]
          rw [List.append_assoc]
        · rw [List.length_take]; omega
        · simp only [Nat.sub_zero] at hn
          unfold enc
          omega
      · rw [if_neg hl] at h; cases h
theorem Text_at (l : List Int) (p : Int) (s : ByteArray) (n : Int) (hb : Bytes l) (hl : l.length ≤ 1099511627776) (h : txt l p = (s, n, 0)) : ∃ a c, l = a ++ encText s ++ c ∧ (a.length : Int) = p ∧ n = p + (encText s).length := by
  have ht := (txt_eq l p hb hl).1
  rw [h] at ht
  obtain ⟨v, m, e, hv, hh⟩ := varint_some l p hb (by omega)
  unfold codec_Text.f at ht
  rw [hv, Option.bind_some] at ht
  rcases hh with ⟨rfl, v0, v1, p0, n0, n1⟩ | ⟨he, e0, e1, rfl, rfl⟩
  · obtain ⟨a, c, e1, e2, e3⟩ := Varint_at l p v m hb hv
    simp only [if_true] at ht
    rw [if_pos v0, if_pos (by omega), if_pos n1, if_pos (by omega)] at ht
    by_cases h2 : v > (l.length : Int) - m
    · rw [if_pos h2] at ht; simp at ht
    · rw [if_neg h2] at ht
      simp only [Option.some.injEq, Prod.mk.injEq, and_true] at ht
      have hlen : l.length = a.length + (enc v).length + c.length := by rw [e1, List.length_append, List.length_append]
      have hs : s = strOfNums (c.take v.toNat) := by
        rw [← ht.1]
        congr 1
        have q1 : (m + v).toNat = (a ++ enc v).length + v.toNat := by rw [List.length_append]; omega
        have q2 : m.toNat = (a ++ enc v).length := by rw [List.length_append]; omega
        rw [q1, q2, e1, List.take_length_add_append, List.drop_left]
      have hbc : Bytes c := fun x hx => hb x (by rw [e1]; exact List.mem_append_right _ hx)
      have hz : s.size = v.toNat := by rw [hs, nums_size, List.length_take]; omega
      have hv2 : ((s.size : Nat) : Int) = v := by omega
      have hbs : bytesOf s = c.take v.toNat := by rw [hs, bytesOf_nums _ (hbc.take _)]
      refine ⟨a, c.drop v.toNat, ?_, e2, ?_⟩
      · unfold encText
        rw [hv2, hbs, List.append_assoc, List.append_assoc, List.take_append_drop, ← List.append_assoc]
        exact e1
      · rw [← ht.2, e3]
        unfold encText
        rw [List.length_append, bytesOf_length, hv2]
        push_cast
        omega
  · simp only [] at ht
    rw [if_neg he] at ht
    simp only [Option.some.injEq, Prod.mk.injEq] at ht
    exact absurd ht.2.2 he
theorem byte_at (l a1 r : List Int) (p : Int) (e : l = a1 ++ r) (h : (a1.length : Int) = p + 1) (h0 : 0 ≤ p) : ∃ a, a1 = a ++ [rd l p] ∧ (a.length : Int) = p := by
  have hne : a1 ≠ [] := by intro h'; rw [h'] at h; simp at h; omega
  refine ⟨a1.dropLast, ?_, by rw [List.length_dropLast]; omega⟩
  have hp : p = ((a1.length - 1 : Nat) : Int) := by omega
  have hlt : a1.length - 1 < l.length := by rw [e, List.length_append]; omega
  rw [hp, rd_get l _ hlt]
  subst e
  rw [List.getElem_append_left (by omega)]
  conv => lhs; rw [← List.dropLast_concat_getLast hne]
  rw [List.getLast_eq_getElem]
theorem rdR_at (l : List Int) (p : Int) (hb : Bytes l) (hl : l.length ≤ 1099511627776) (h0 : 0 ≤ p) (h : (rdR l p).2.2 = true) : ∃ a c, l = a ++ encOp (rdR l p).1 ++ c ∧ (a.length : Int) = p ∧ (rdR l p).2.1 = p + (encOp (rdR l p).1).length ∧ mayB (rdR l p).1 = true := by
  have hbyte := fun hlt => rd_byte hb p h0 hlt
  by_cases c1 : p ≥ (l.length : Int)
  · unfold rdR at h; rw [if_pos c1] at h; cases h
  · by_cases c2 : (txt l (p + 1)).2.2 ≠ 0
    · unfold rdR at h; rw [if_neg c1, if_pos c2] at h; cases h
    · have c2' : (txt l (p + 1)).2.2 = 0 := by omega
      obtain ⟨s1, n1, z1, ht1⟩ : ∃ s n z, txt l (p + 1) = (s, n, z) := ⟨_, _, _, rfl⟩
      rw [ht1] at c2'
      obtain rfl : z1 = 0 := c2'
      obtain ⟨a1, r1, e1, l1, k1⟩ := Text_at l (p + 1) s1 n1 hb hl ht1
      obtain ⟨a, ea, la⟩ := byte_at l a1 (encText s1 ++ r1) p (by rw [e1, List.append_assoc]) l1 h0
      have hb0 := hbyte (by omega)
      by_cases c3 : rd l p = 0
      · have er : rdR l p = (⟨0, s1, ⟨#[]⟩⟩, n1, mayB ⟨0, s1, ⟨#[]⟩⟩) := by unfold rdR; rw [if_neg c1, if_neg c2, if_pos c3, ht1]
        rw [er] at h ⊢
        refine ⟨a, r1, ?_, la, ?_, h⟩
        · simp only [encOp]
          rw [if_pos trivial]
          rw [c3] at ea
          rw [e1, ea]
          simp
        · simp only [encOp]
          rw [if_pos trivial, List.length_cons, k1]
          push_cast
          omega
      · by_cases c4 : (txt l n1).2.2 ≠ 0
        · unfold rdR at h; rw [if_neg c1, if_neg c2, if_neg c3, ht1] at h; simp only [] at h; rw [if_pos c4] at h; cases h
        · have c4' : (txt l n1).2.2 = 0 := by omega
          obtain ⟨s2, n2, z2, ht2⟩ : ∃ s n z, txt l n1 = (s, n, z) := ⟨_, _, _, rfl⟩
          rw [ht2] at c4'
          obtain rfl : z2 = 0 := c4'
          obtain ⟨a2, r2, e2, l2, k2⟩ := Text_at l n1 s2 n2 hb hl ht2
          have er : rdR l p = (⟨rd l p, s1, s2⟩, n2, mayB ⟨rd l p, s1, s2⟩) := by unfold rdR; rw [if_neg c1, if_neg c2, if_neg c3, ht1]; simp only []; rw [if_neg c4, ht2]
          rw [er] at h ⊢
          have hpre : a1 ++ encText s1 = a2 := by
            have e3 : (a1 ++ encText s1) ++ r1 = a2 ++ (encText s2 ++ r2) := by rw [← e1, e2, List.append_assoc]
            exact (List.append_inj e3 (by rw [List.length_append]; omega)).1
          refine ⟨a, r2, ?_, la, ?_, h⟩
          · simp only [encOp]
            rw [if_neg c3, show rd l p % 256 = rd l p by omega]
            conv => lhs; rw [e2, ← hpre, ea]
            simp
          · simp only [encOp]
            rw [if_neg c3, List.length_append, List.length_cons, k2, k1]
            push_cast
            omega
theorem ba_len (s : ByteArray) : s.toList.length = s.size := by
  rw [Lib.toList_data, Array.length_toList]
  rfl
theorem may_kind (x : Op04) (h : mayB x = true) : 0 ≤ x.f0 ∧ x.f0 ≤ 2 ∧ (x.f0 = 0 → x.f2 = ⟨#[]⟩) := by
  unfold mayB at h
  split at h
  · cases h
  · split at h
    · cases h
    · split at h
      · rename_i h3
        refine ⟨by omega, by omega, fun _ => ?_⟩
        have : x.f2.toList = [] := by simpa using h
        have h4 : x.f2.size = 0 := by
          have e := ba_len x.f2
          rw [this] at e
          exact e.symm
        cases hx : x.f2 with
        | mk d =>
          rw [hx] at h4
          have : d = #[] := by simpa [ByteArray.size] using h4
          rw [this]
      · split at h
        · exact ⟨by omega, by omega, fun h' => by omega⟩
        · split at h
          · exact ⟨by omega, by omega, fun h' => by omega⟩
          · cases h
theorem txt_put (a c : List Int) (s : ByteArray) (l : List Int) (p : Int) (e : l = a ++ encText s ++ c) (hp : p = (a.length : Int)) (hl : l.length ≤ 1099511627776) : txt l p = (s, p + ((encText s).length : Int), 0) := by
  subst e hp
  unfold txt
  rw [Text_put a c s (by omega)]
  rfl
theorem rdR_put (x : Op04) (hm : mayB x = true) (a c l : List Int) (e : l = a ++ encOp x ++ c) (hl : l.length ≤ 1099511627776) : rdR l a.length = (x, (a.length : Int) + ((encOp x).length : Int), true) := by
  have hk := may_kind x hm
  have hlen : l.length = a.length + (encOp x).length + c.length := by rw [e, List.length_append, List.length_append]
  by_cases h0 : x.f0 = 0
  · have eo : encOp x = 0 :: encText x.f1 := by unfold encOp; rw [if_pos h0, h0]; rfl
    have e1 : l = (a ++ [0]) ++ encText x.f1 ++ c := by rw [e, eo]; simp
    have ht := txt_put (a ++ [0]) c x.f1 l ((a.length : Int) + 1) e1 (by simp) hl
    have hr : rd l (a.length : Int) = 0 := by rw [rd_get l a.length (by rw [hlen, eo, List.length_cons]; omega)]; simp [e1]
    have hx : (⟨0, x.f1, ⟨#[]⟩⟩ : Op04) = x := by
      have h2 := hk.2.2 h0
      cases x
      simp_all
    unfold rdR
    rw [if_neg (by rw [hlen, eo, List.length_cons]; omega), ht, if_neg (by simp), if_pos hr]
    simp only []
    rw [hx, hm, eo, List.length_cons]
    congr 2
    push_cast
    omega
  · have eo : encOp x = x.f0 :: (encText x.f1 ++ encText x.f2) := by unfold encOp; rw [if_neg h0, show x.f0 % 256 = x.f0 by omega]; rfl
    have e1 : l = (a ++ [x.f0]) ++ encText x.f1 ++ (encText x.f2 ++ c) := by rw [e, eo]; simp
    have e2 : l = (a ++ [x.f0] ++ encText x.f1) ++ encText x.f2 ++ c := by rw [e, eo]; simp
    have ht := txt_put (a ++ [x.f0]) _ x.f1 l ((a.length : Int) + 1) e1 (by simp) hl
    have ht2 := txt_put (a ++ [x.f0] ++ encText x.f1) _ x.f2 l ((a.length : Int) + 1 + ((encText x.f1).length : Int)) e2 (by simp only [List.length_append, List.length_cons, List.length_nil]; omega) hl
    have hr : rd l (a.length : Int) = x.f0 := by rw [rd_get l a.length (by rw [hlen, eo, List.length_cons]; omega)]; simp [e1]
    unfold rdR
    rw [if_neg (by rw [hlen, eo, List.length_cons]; omega), ht, if_neg (by simp), if_neg (by rw [hr]; exact h0)]
    simp only []
    rw [ht2, if_neg (by simp), hr]
    simp only []
    rw [show (⟨x.f0, x.f1, x.f2⟩ : Op04) = x from rfl, hm, eo, List.length_cons, List.length_append]
    congr 2
    push_cast
    omega
/-- the place behind the last of some -/
def endAt (p : Int) (gs : List Gone) : Int := match gs.getLast? with | some g => g.2.2 | none => p
theorem endAt_cons (p : Int) (g : Gone) (gs : List Gone) : endAt p (g :: gs) = endAt g.2.2 gs := by
  unfold endAt
  cases gs with
  | nil => rfl
  | cons h t =>
    rw [List.getLast?_cons_cons]
    have : (h :: t).getLast? ≠ none := by simp
    cases e : (h :: t).getLast? with
    | none => exact absurd e this
    | some y => rfl
theorem lastEnd_eq (gs : List Gone) : lastEnd gs = endAt 12 gs := rfl
theorem gos_at (l : List Int) (seq : Int) (hb : Bytes l) (hl : l.length ≤ 1099511627776) : ∀ (d i : Nat) (p : Int), 0 ≤ p → p ≤ l.length →
    ∃ a c, l = a ++ encOps (opsOf04 (gos l seq d i p)) ++ c ∧ (a.length : Int) = p ∧ endAt p (gos l seq d i p) = p + (encOps (opsOf04 (gos l seq d i p))).length ∧ ∀ x ∈ opsOf04 (gos l seq d i p), mayB x = true
  | 0, i, p, h0, hp => by
    refine ⟨l.take p.toNat, l.drop p.toNat, ?_, by rw [List.length_take]; omega, ?_, ?_⟩
    · simp [gos, opsOf04, encOps]
    · simp [gos, opsOf04, encOps, endAt]
    · intro x hx; simp [gos, opsOf04] at hx
  | d + 1, i, p, h0, hp => by
    unfold gos
    by_cases hr : (rdR l p).2.2 = true
    · rw [if_pos hr]
      have hn := rdR_next l hb hl p hr
      obtain ⟨a, c, e, la, ka, hm⟩ := rdR_at l p hb hl h0 hr
      obtain ⟨a2, c2, e2, la2, ka2, hm2⟩ := gos_at l seq hb hl d (i + 1) (rdR l p).2.1 hn.1 hn.2.2
      have ec : opsOf04 ((IntKind.u64.wrap (seq + (i : Int)), (rdR l p).1, (rdR l p).2.1) :: gos l seq d (i + 1) (rdR l p).2.1) = (rdR l p).1 :: opsOf04 (gos l seq d (i + 1) (rdR l p).2.1) := rfl
      rw [ec, endAt_cons]
      simp only [encOps]
      have hpre : a ++ encOp (rdR l p).1 = a2 := by
        have e3 : (a ++ encOp (rdR l p).1) ++ c = a2 ++ (encOps (opsOf04 (gos l seq d (i + 1) (rdR l p).2.1)) ++ c2) := by rw [← e, ← List.append_assoc]; exact e2
        exact (List.append_inj e3 (by rw [List.length_append]; omega)).1
      refine ⟨a, c2, ?_, la, ?_, ?_⟩
      · conv => lhs; rw [e2, ← hpre]
        simp
      · rw [ka2, ka, List.length_append]
        push_cast
        omega
      · intro x hx
        rcases List.mem_cons.1 hx with rfl | hx
        · exact hm
        · exact hm2 x hx
    · rw [if_neg hr]
      refine ⟨l.take p.toNat, l.drop p.toNat, ?_, by rw [List.length_take]; omega, ?_, ?_⟩
      · simp [opsOf04, encOps]
      · simp [opsOf04, encOps, endAt]
      · intro x hx; simp [opsOf04] at hx
theorem gos_put (l : List Int) (seq : Int) (hl : l.length ≤ 1099511627776) : ∀ (ops : List Op04) (i : Nat) (p : Int) (a c : List Int), l = a ++ encOps ops ++ c → p = (a.length : Int) → (∀ x ∈ ops, mayB x = true) →
    opsOf04 (gos l seq ops.length i p) = ops ∧ endAt p (gos l seq ops.length i p) = p + ((encOps ops).length : Int)
  | [], i, p, a, c, e, hp, hm => ⟨rfl, by simp [gos, endAt, encOps]⟩
  | x :: r, i, p, a, c, e, hp, hm => by
    have hr := rdR_put x (hm x List.mem_cons_self) a (encOps r ++ c) l (by rw [e]; simp [encOps]) hl
    have ih := gos_put l seq hl r (i + 1) (p + ((encOp x).length : Int)) (a ++ encOp x) c (by rw [e]; simp [encOps]) (by rw [List.length_append, hp]; push_cast; rfl) (fun y hy => hm y (List.mem_cons_of_mem _ hy))
    rw [← hp] at hr
    rw [List.length_cons]
    unfold gos
    rw [hr]
    simp only [if_true]
    rw [endAt_cons]
    refine ⟨?_, ?_⟩
    · show x :: opsOf04 (gos l seq r.length (i + 1) (p + ((encOp x).length : Int))) = x :: r
      rw [ih.1]
    · simp only []
      rw [ih.2]
      simp only [encOps]
      rw [List.length_append]
      push_cast
      omega
theorem badN_all : ∀ (l : List Op04) (i : Nat), (∀ x ∈ l, mayB x = true) → badN l i = none
  | [], _, _ => rfl
  | x :: r, i, h => by
    unfold badN
    rw [if_pos (h x List.mem_cons_self)]
    exact badN_all r (i + 1) (fun y hy => h y (List.mem_cons_of_mem _ hy))
theorem badN_none : ∀ (l : List Op04) (i : Nat), badN l i = none → ∀ x ∈ l, mayB x = true
  | [], _, _, x, hx => by cases hx
  | y :: r, i, h, x, hx => by
    unfold badN at h
    by_cases hy : mayB y = true
    · rw [if_pos hy] at h
      rcases List.mem_cons.1 hx with rfl | hx
      · exact hy
      · exact badN_none r (i + 1) h x hx
    · rw [if_neg hy] at h; cases h
theorem chk_ok {l : List Op04} (h : (chk l).2 = 0) : chk l = (0, 0) ∧ l.length ≤ 4096 ∧ (∀ x ∈ l, mayB x = true) ∧ 12 + totN l ≤ 1048576 := by
  unfold chk at h ⊢
  by_cases h1 : (l.length : Int) > 4096
  · rw [if_pos h1] at h; cases h
  · rw [if_neg h1] at h ⊢
    cases hb : badN l 0 with
    | some i => rw [hb] at h; simp at h
    | none =>
      rw [hb] at h
      simp only [] at h ⊢
      by_cases h2 : 12 + totN l > 1048576
      · rw [if_pos h2] at h; simp at h
      · rw [if_neg h2]
        exact ⟨rfl, by omega, badN_none l 0 hb, by omega⟩
theorem chk_of {l : List Op04} (h1 : l.length ≤ 4096) (hm : ∀ x ∈ l, mayB x = true) (h2 : 12 + totN l ≤ 1048576) : chk l = (0, 0) := by
  unfold chk
  rw [if_neg (by omega), badN_all l 0 hm]
  simp only []
  rw [if_neg (by omega)]
theorem fixF_le : ∀ (l : List Int), Bytes l → fixF l.length (le l) = l
  | [], _ => rfl
  | x :: r, h => by
    have hx := h x List.mem_cons_self
    have ih := fixF_le r (fun y hy => h y (List.mem_cons_of_mem _ hy))
    simp only [List.length_cons, fixF, le]
    rw [show (x + 256 * le r) % 256 = x by omega, show (x + 256 * le r) / 256 = le r by omega, ih]
theorem encR_ok {seq : Int} {l : List Op04} (h : (encR seq l).2 = 0) : (chk l).2 = 0 ∧ fitB seq l.length = true ∧ encR seq l = (encB seq l, 0) := by
  unfold encR at h ⊢
  by_cases h1 : (chk l).2 = 0
  · rw [if_pos h1] at h ⊢
    by_cases h2 : fitB seq l.length = true
    · rw [if_pos h2]; exact ⟨h1, h2, rfl⟩
    · rw [if_neg h2] at h; cases h
  · rw [if_neg h1] at h; exact absurd h h1
theorem decB_put (seq : Int) (l : List Op04) (h0 : 0 ≤ seq) (h1 : seq < 18446744073709551616) (h : (encR seq l).2 = 0) : decB (encB seq l) = (seq, l, 0) := by
  obtain ⟨hc, hf, _⟩ := encR_ok h
  obtain ⟨_, hn, hm, ht⟩ := chk_ok hc
  have hlen := encB_len seq l
  have hs8 : seg (encB seq l) 0 8 = fixF 8 seq := by
    have := seg_mid [] (fixF 8 seq) (fixF 4 (l.length : Int) ++ encOps l)
    rw [fixF_len] at this
    simpa [encB] using this
  have hs4 : seg (encB seq l) 8 4 = fixF 4 (l.length : Int) := by
    have := seg_mid (fixF 8 seq) (fixF 4 (l.length : Int)) (encOps l)
    rw [fixF_len, fixF_len] at this
    exact this
  have q8 : le (seg (encB seq l) 0 8) = seq := by rw [hs8, le_fixF 8 seq h0, show (256 : Int) ^ 8 = 18446744073709551616 by decide]; omega
  have q4 : le (seg (encB seq l) 8 4) = (l.length : Int) := by rw [hs4, le_fixF 4 _ (by omega), show (256 : Int) ^ 4 = 4294967296 by decide]; omega
  have hg := gos_put (encB seq l) seq (by omega) l 0 12 (fixF 8 seq ++ fixF 4 (l.length : Int)) [] (by simp [encB]) (by rw [List.length_append, fixF_len, fixF_len]; rfl) hm
  have hG : goneL (encB seq l) = gos (encB seq l) seq l.length 0 12 := by
    unfold goneL
    rw [if_neg (by omega), q8, q4]
    rfl
  unfold decB
  rw [if_neg (by omega), q8, q4, hG, lastEnd_eq, hg.1, hg.2, ← opsOf_len, hg.1]
  rw [if_pos ⟨hc, rfl, by rw [hlen, encOps_len]; push_cast; omega, hf⟩]
theorem decB_at (b : List Int) (hb : Bytes b) (hl : b.length ≤ 1048576) (h : (decB b).2.2 = 0) : (∀ x ∈ (decB b).2.1, mayB x = true) ∧ encR (decB b).1 (decB b).2.1 = (b, 0) := by
  unfold decB at h ⊢
  by_cases h12 : b.length < 12
  · rw [if_pos h12] at h; cases h
  · rw [if_neg h12] at h ⊢
    split at h
    · rename_i hc
      rw [if_pos hc]
      obtain ⟨c1, c2, c3, c4⟩ := hc
      have hG : goneL b = gos b (le (seg b 0 8)) (le (seg b 8 4)).toNat 0 12 := by unfold goneL; rw [if_neg h12]
      obtain ⟨a, c, e, la, ka, hm⟩ := gos_at b (le (seg b 0 8)) hb (by omega) (le (seg b 8 4)).toNat 0 12 (by omega) (by omega)
      rw [← hG] at e ka hm
      rw [lastEnd_eq, ka] at c3
      have hlen : b.length = a.length + (encOps (opsOf04 (goneL b))).length + c.length := by
        conv => lhs; rw [e]
        rw [List.length_append, List.length_append]
      have hc0 : c = [] := List.eq_nil_of_length_eq_zero (by omega)
      refine ⟨hm, ?_⟩
      simp only []
      unfold encR
      rw [if_pos c1, if_pos (by rw [opsOf_len, show (goneL b).length = (le (seg b 8 4)).toNat by omega]; exact c4)]
      congr 1
      unfold encB
      have f8 : fixF 8 (le (seg b 0 8)) = seg b 0 8 := by
        have := fixF_le (seg b 0 8) (seg_bytes hb _ _)
        rwa [seg_len b 0 8 (by omega)] at this
      have f4 : fixF 4 (le (seg b 8 4)) = seg b 8 4 := by
        have := fixF_le (seg b 8 4) (seg_bytes hb _ _)
        rwa [seg_len b 8 4 (by omega)] at this
      rw [opsOf_len, c2, f8, f4]
      have ha : a = b.take 12 := by
        conv => rhs; rw [e, hc0]
        rw [List.append_nil, List.take_left' (by omega)]
      have hab : seg b 0 8 ++ seg b 8 4 = b.take 12 := by
        unfold seg
        rw [List.drop_zero, ← List.take_add]
      rw [hab, ← ha]
      conv => rhs; rw [e, hc0]
      rw [List.append_nil]
    · cases h
theorem decB_bad (b : List Int) (h : (decB b).2.2 ≠ 0) : decB b = (0, [], 41) := by
  unfold decB at h ⊢
  by_cases h12 : b.length < 12
  · rw [if_pos h12]
  · rw [if_neg h12] at h ⊢
    split at h
    · exact absurd rfl h
    · rename_i hc
      rw [if_neg hc]

end Go.Proofs.Ythkooncibfkepaa.G

/- Printed by the session's program over the kit's print, out of the translation: functions as plain Lean functions, and the proofs that the calls come to them. -/
namespace Go.Proofs.Ythkooncibfkepaa.G
open Go.RowKit Go.Proofs.YthkooncibfkepaaW.PrintWords Go.Proofs.YthkooncibfkepaaW.PrintLast Go.Proofs.YthkooncibfkepaaW.PrintMore
attribute [local go_sem] max2_int min2_int max_two min_two max_three min_three max_four min_four   -- for this text's walks alone
set_option linter.unusedVariables false
set_option linter.unusedSimpArgs false

/-! ### moraineref04_number: function 64 -/
def moraineref04_number.l0 : Nat → List Int → Int → Int → Int → Option (Int)
  | 0, _, _, _, _ => none
  | k + 1, x0, x1, x7, x8 => if x8 ≥ 0 then (if 0 ≤ (wrap64 (x1 + x8)) then (if (wrap64 (x1 + x8)) < (x0.length : Int) then (moraineref04_number.l0 k x0 x1 (Go.bits .or .u64 (IntKind.u64.wrap (x7 * 256)) (IntKind.u64.wrap (rd x0 (wrap64 (x1 + x8))))) (wrap64 (x8 - 1))) else (none)) else (none)) else (some x7)
def moraineref04_number.f (k : Nat) (l0 : List Int) (a1 : Int) (a2 : Int) : Option (Int) := moraineref04_number.l0 k l0 a1 0 (wrap64 (a2 - 1))
theorem moraineref04_number.mono_l : ∀ k, (∀ y0 y1 y2 y3, LeO (moraineref04_number.l0 k y0 y1 y2 y3) (moraineref04_number.l0 (k + 1) y0 y1 y2 y3))
  | 0 => fun _ _ _ _ r h => by simp [moraineref04_number.l0] at h
  | k + 1 => by
    have ih0 := moraineref04_number.mono_l k
    · intro y0 y1 y2 y3
      unfold moraineref04_number.l0
      repeat' first
      | (with_reducible exact ih0 _ _ _ _)
      | (with_reducible exact LeO.refl _)
      | (with_reducible exact LeO.none _)
      | (with_reducible refine LeO.ite ?_ ?_)
      | (with_reducible refine LeO.bind ?_ (fun _ => ?_))
      | exact ih0 _ _ _ _
      | exact LeO.none _
      | refine LeO.ite ?_ ?_
      | refine LeO.bind ?_ (fun _ => ?_)
theorem moraineref04_number.mono : ∀ a0 a1 a2 k, LeO (moraineref04_number.f k a0 a1 a2) (moraineref04_number.f (k + 1) a0 a1 a2) := by
  intro a0 a1 a2 k
  have ih0 := moraineref04_number.mono_l k
  unfold moraineref04_number.f
  repeat' first
      | (with_reducible exact ih0 _ _ _ _)
      | (with_reducible exact LeO.refl _)
      | (with_reducible exact LeO.none _)
      | (with_reducible refine LeO.ite ?_ ?_)
      | (with_reducible refine LeO.bind ?_ (fun _ => ?_))
      | exact ih0 _ _ _ _
      | exact LeO.none _
      | refine LeO.ite ?_ ?_
      | refine LeO.bind ?_ (fun _ => ?_)
set_option maxHeartbeats 8000000 in
set_option maxRecDepth 100000 in
theorem moraineref04_number.calls (k : Nat) (A0 : Option Addr) (c0 : Nat) (l0 : List Int) (a1 : Int) (a2 : Int) (r : Int) (w : World) (hr0 : Kd.C (Kd.int .u8) w A0 l0.length l0) (hc0 : l0.length ≤ c0) (h : moraineref04_number.f k l0 a1 a2 = some r) :
    Calls Try.prog 64 #[.slice A0 l0.length c0, .int .i64 a1, .int .i64 a2] w fun e w' => e = .returned (.int .u64 r) ∧ Drawn0 w w' := by
  have HR0 := Aside0.mk hr0
  have HC0 := Aside0.mk hc0
  clear hr0 hc0
  have H : (moraineref04_number.l0 k l0 a1 0 (wrap64 (a2 - 1))) = some r := h
  clear h
  have H' := Aside0.mk H
  clear H
  go_enter Try.func64, Try.ntmps64
  go_wp2
  go_loopg [7, 8] k (fun kq v7 v8 w' => ∃ (x7_1 : Int) (x8_1 : Int), v7 = .int .u64 x7_1 ∧ v8 = .int .i64 x8_1 ∧ Aside0 (moraineref04_number.l0 kq l0 a1 x7_1 x8_1 = some r) ∧ Aside0 (kq ≤ k) ∧ Drawn0 w w')
  case atStart => exact ⟨(0), (wrap64 (a2 - 1)), (by first | rfl | (simp; done) | (simp [*]; done)), (by first | rfl | (simp; done) | (simp [*]; done)), H', ⟨Nat.le_refl _⟩, by repeat (first | exact Drawn0.refl _ | apply Drawn0.step)⟩
  case round =>
    clear H'
    try clear p2
    obtain ⟨x7_1, x8_1, rfl, rfl, HA, HK1, ⟨m1, rfl⟩⟩ := hrel
    cases gk with
    | zero => exact absurd HA.out (by simp [moraineref04_number.l0])
    | succ k1 =>
      have H := HA.out
      clear HA
      simp only [moraineref04_number.l0] at H
      by_cases c4 : x8_1 ≥ 0
      · rw [if_pos c4] at H
        have c4b0 : decide (0 ≤ x8_1) = true := decide_eq_true c4
        clear c4
        obtain ⟨ji5, hji5⟩ : ∃ j_ : Int, (wrap64 (a1 + x8_1)) = j_ := ⟨_, rfl⟩
        replace H : (if 0 ≤ (ji5) then (if (ji5) < (l0.length : Int) then (moraineref04_number.l0 k1 l0 a1 (Go.bits .or .u64 (IntKind.u64.wrap (x7_1 * 256)) (IntKind.u64.wrap (rd l0 (ji5)))) (wrap64 (x8_1 - 1))) else (none)) else (none)) = some r := by first | (rw [hji5] at H; exact H) | (simp only [hji5] at H ⊢; exact H)
        have hji5w : (IntKind.i64.wrap (a1 + x8_1)) = ji5 := (i64_w _).trans hji5
        by_cases c6 : 0 ≤ (ji5)
        · rw [if_pos c6] at H
          have c6b0 : decide (0 ≤ (ji5)) = true := decide_eq_true c6
          clear c6
          by_cases c7 : (ji5) < (l0.length : Int)
          · rw [if_pos c7] at H
            have c7b0 : decide ((ji5) < (l0.length : Int)) = true := decide_eq_true c7
            clear c7
            have H' := Aside0.mk H
            clear H
            have p227 : 0 ≤ ((ji5) : Int) := of_decide_eq_true (by first | (with_reducible assumption) | assumption)
            have q227 : (ji5) < (l0.length : Int) := of_decide_eq_true (by first | (with_reducible assumption) | assumption)
            obtain ⟨ad227, e227, hx227_0⟩ := Kd.at_int HR0.out (ji5) p227 q227
            cases e227
            replace p227 := eq_true p227
            replace q227 := eq_true q227
            go_wp2
            go_roundg k1
            case measure => have := HK1.out; omega
            case rel => exact ⟨(Go.bits .or .u64 (IntKind.u64.wrap (x7_1 * 256)) (IntKind.u64.wrap (rd l0 (ji5)))), (wrap64 (x8_1 - 1)), (by first | rfl | (simp; done) | (simp only [← hji5] <;> (first | rfl | simp)) | (simp [*]; done)), (by first | rfl | (simp; done) | (simp [*]; done)), H', ⟨by have := HK1.out; omega⟩, by repeat (first | exact Drawn0.refl _ | apply Drawn0.step)⟩
          · rw [if_neg c7] at H
            exact absurd H (by simp)
        · rw [if_neg c6] at H
          exact absurd H (by simp)
      · rw [if_neg c4] at H
        have c4b0 : decide (0 ≤ x8_1) = false := decide_eq_false c4
        clear c4
        obtain rfl := Option.some.inj H
        go_wp2
        go_ret
        exact ⟨by first | rfl | (simp; done) | (simp [*]; done), by repeat (first | exact Drawn0.refl _ | apply Drawn0.step)⟩

end Go.Proofs.Ythkooncibfkepaa.G

/- Printed by the session's program over the kit's print, out of the translation: functions as plain Lean functions, and the proofs that the calls come to them. -/
namespace Go.Proofs.Ythkooncibfkepaa.G
open Go.RowKit Go.Proofs.YthkooncibfkepaaW.PrintWords Go.Proofs.YthkooncibfkepaaW.PrintLast Go.Proofs.YthkooncibfkepaaW.PrintMore
attribute [local go_sem] max2_int min2_int max_two min_two max_three min_three max_four min_four   -- for this text's walks alone
set_option linter.unusedVariables false
set_option linter.unusedSimpArgs false

/-! ### moraineref04_Head: function 36 -/
def moraineref04_Head.f (k : Nat) (l0 : List Int) : Option (Int × Int × Int) := if (l0.length : Int) < 12 then (some (0, 0, 41)) else ((moraineref04_number.f k l0 0 8).bind fun t257 => ((moraineref04_number.f k l0 8 4).bind fun t258 => (some (t257, wrap64 (t258), 0))))
theorem moraineref04_Head.mono : ∀ a0 k, LeO (moraineref04_Head.f k a0) (moraineref04_Head.f (k + 1) a0) := by
  intro a0 k
  unfold moraineref04_Head.f
  repeat' first
      | (with_reducible exact moraineref04_number.mono _ _ _ _)
      | (with_reducible exact LeO.refl _)
      | (with_reducible exact LeO.none _)
      | (with_reducible refine LeO.ite ?_ ?_)
      | (with_reducible refine LeO.bind ?_ (fun _ => ?_))
      | exact moraineref04_number.mono _ _ _ _
      | exact LeO.none _
      | refine LeO.ite ?_ ?_
      | refine LeO.bind ?_ (fun _ => ?_)
set_option maxHeartbeats 8000000 in
set_option maxRecDepth 100000 in
theorem moraineref04_Head.calls (k : Nat) (A0 : Option Addr) (c0 : Nat) (l0 : List Int) (r1 : Int) (r2 : Int) (r3 : Int) (w : World) (hr0 : Kd.C (Kd.int .u8) w A0 l0.length l0) (hc0 : l0.length ≤ c0) (h : moraineref04_Head.f k l0 = some (r1, r2, r3)) :
    Calls Try.prog 36 #[.slice A0 l0.length c0] w fun e w' => e = .returned (.tuple #[.int .u64 r1, .int .i64 r2, .int .i64 r3]) ∧ Drawn0 w w' := by
  have HR0 := Aside0.mk hr0
  have HC0 := Aside0.mk hc0
  clear hr0 hc0
  have H : (if (l0.length : Int) < 12 then (some (0, 0, 41)) else ((moraineref04_number.f k l0 0 8).bind fun t257 => ((moraineref04_number.f k l0 8 4).bind fun t258 => (some (t257, wrap64 (t258), 0))))) = some (r1, r2, r3) := h
  clear h
  by_cases c2 : (l0.length : Int) < 12
  · rw [if_pos c2] at H
    have c2b0 : decide ((l0.length : Int) < 12) = true := decide_eq_true c2
    have c2b1 : decide (l0.length < 12) = true := decide_eq_true (by omega)
    clear c2
    simp only [Option.some.injEq, Prod.mk.injEq] at H
    obtain ⟨rfl, rfl, rfl⟩ := H
    go_enter Try.func36, Try.ntmps36
    go_wp2
    go_ret3
    exact ⟨by first | rfl | (simp; done) | (simp [*]; done), by repeat (first | exact Drawn0.refl _ | apply Drawn0.step)⟩
  · rw [if_neg c2] at H
    have c2b0 : decide ((l0.length : Int) < 12) = false := decide_eq_false c2
    have c2b1 : decide (l0.length < 12) = false := decide_eq_false (by omega)
    clear c2
    replace H := Option.bind_eq_some_iff.mp H
    obtain ⟨t257, A30, H⟩ := H
    replace H : ((moraineref04_number.f k l0 8 4).bind fun t258 => (some (t257, wrap64 (t258), 0))) = some (r1, r2, r3) := H
    have A3 := Aside0.mk A30
    clear A30
    replace H := Option.bind_eq_some_iff.mp H
    obtain ⟨t258, A40, H⟩ := H
    replace H : (some (t257, wrap64 (t258), 0)) = some (r1, r2, r3) := H
    have A4 := Aside0.mk A40
    clear A40
    simp only [Option.some.injEq, Prod.mk.injEq] at H
    obtain ⟨rfl, rfl, rfl⟩ := H
    go_enter Try.func36, Try.ntmps36
    go_wp2_with (first | ((with_reducible refine gate_callee (f := 64) rfl ?_); refine goesL_ (some 9) rfl rfl Try.func64 (by kernel_rfl) rfl #[.slice A0 l0.length c0, .int .i64 0, .int .i64 8] rfl (by (try simp only [List.map_toArray, List.map_cons, List.map_nil]); first | done | rfl | (simp only [List.length_drop, List.length_take]; rfl)) ?_; (with_reducible refine (moraineref04_number.calls k _ _ l0 0 8 t257 _ ?side1 ?side2 A3.out).mono ?_); (case side1 => repeat (first | exact HR0.out | (with_reducible refine Kd.C_alloc ?_ _) | (with_reducible refine Kd.C_drewN ?_ _) | (with_reducible refine Kd.C_drew ?_))); (case side2 => exact HC0.out); rintro e w' ⟨rfl, ⟨nd, rfl⟩⟩; refine ⟨_, rfl, ?_⟩) | ((with_reducible refine gate_callee (f := 64) rfl ?_); refine goesL_ (some 11) rfl rfl Try.func64 (by kernel_rfl) rfl #[.slice A0 l0.length c0, .int .i64 8, .int .i64 4] rfl (by (try simp only [List.map_toArray, List.map_cons, List.map_nil]); first | done | rfl | (simp only [List.length_drop, List.length_take]; rfl)) ?_; (with_reducible refine (moraineref04_number.calls k _ _ l0 8 4 t258 _ ?side1 ?side2 A4.out).mono ?_); (case side1 => repeat (first | exact HR0.out | (with_reducible refine Kd.C_alloc ?_ _) | (with_reducible refine Kd.C_drewN ?_ _) | (with_reducible refine Kd.C_drew ?_))); (case side2 => exact HC0.out); rintro e w' ⟨rfl, ⟨nd, rfl⟩⟩; refine ⟨_, rfl, ?_⟩))
    go_ret3
    exact ⟨by first | rfl | (simp; done) | (simp [*]; done), by repeat (first | exact Drawn0.refl _ | apply Drawn0.step)⟩

end Go.Proofs.Ythkooncibfkepaa.G

/- Printed by the session's program over the kit's print, out of the translation: functions as plain Lean functions, and the proofs that the calls come to them. -/
namespace Go.Proofs.Ythkooncibfkepaa.G
open Go.RowKit Go.Proofs.YthkooncibfkepaaW.PrintWords Go.Proofs.YthkooncibfkepaaW.PrintLast Go.Proofs.YthkooncibfkepaaW.PrintMore
attribute [local go_sem] max2_int min2_int max_two min_two max_three min_three max_four min_four   -- for this text's walks alone
set_option linter.unusedVariables false
set_option linter.unusedSimpArgs false

/-! ### moraineref04_read: function 79 -/
mutual
def moraineref04_read.l0 : Nat → List Int → Int → Int → Int → Int → Option (ByteArray × Int)
  | 0, _, _, _, _, _ => none
  | k + 1, x0, x1, x2, x8, x9 => if x1 ≥ (x0.length : Int) then (moraineref04_read.j1 k x0 x1 x2 x8 x9 true) else (moraineref04_read.j1 k x0 x1 x2 x8 x9 (decide (x9 > 21)))
def moraineref04_read.j1 : Nat → List Int → Int → Int → Int → Int → Bool → Option (ByteArray × Int)
  | 0, _, _, _, _, _, _ => none
  | k + 1, x0, x1, x2, x8, x9, x18 => if x18 = true then (some ((⟨#[]⟩ : ByteArray), (-1))) else (if 0 ≤ x1 then (if x1 < (x0.length : Int) then (if 0 ≤ x9 then (if (wrap64 (rd x0 x1)) < 128 then (if (wrap64 (rd x0 x1)) = 0 then (if x9 > 0 then (some ((⟨#[]⟩ : ByteArray), (-1))) else (if (Go.bits .or .i64 x8 (shl .i64 (Int.tmod (wrap64 (rd x0 x1)) 128) x9)) > x2 then (some ((⟨#[]⟩ : ByteArray), (-1))) else (if (Go.bits .or .i64 x8 (shl .i64 (Int.tmod (wrap64 (rd x0 x1)) 128) x9)) > (wrap64 ((x0.length : Int) - (wrap64 (x1 + 1)))) then (some ((⟨#[]⟩ : ByteArray), (-1))) else (if 0 ≤ (wrap64 (x1 + 1)) then (if (wrap64 (x1 + 1)) ≤ (wrap64 ((wrap64 (x1 + 1)) + (Go.bits .or .i64 x8 (shl .i64 (Int.tmod (wrap64 (rd x0 x1)) 128) x9)))) then (if (wrap64 ((wrap64 (x1 + 1)) + (Go.bits .or .i64 x8 (shl .i64 (Int.tmod (wrap64 (rd x0 x1)) 128) x9)))) ≤ (x0.length : Int) then (some (strOfNums ((x0.take ((wrap64 ((wrap64 (x1 + 1)) + (Go.bits .or .i64 x8 (shl .i64 (Int.tmod (wrap64 (rd x0 x1)) 128) x9)))) : Int).toNat).drop ((wrap64 (x1 + 1)) : Int).toNat), wrap64 ((wrap64 (x1 + 1)) + (Go.bits .or .i64 x8 (shl .i64 (Int.tmod (wrap64 (rd x0 x1)) 128) x9))))) else (none)) else (none)) else (none))))) else (if (Go.bits .or .i64 x8 (shl .i64 (Int.tmod (wrap64 (rd x0 x1)) 128) x9)) > x2 then (some ((⟨#[]⟩ : ByteArray), (-1))) else (if (Go.bits .or .i64 x8 (shl .i64 (Int.tmod (wrap64 (rd x0 x1)) 128) x9)) > (wrap64 ((x0.length : Int) - (wrap64 (x1 + 1)))) then (some ((⟨#[]⟩ : ByteArray), (-1))) else (if 0 ≤ (wrap64 (x1 + 1)) then (if (wrap64 (x1 + 1)) ≤ (wrap64 ((wrap64 (x1 + 1)) + (Go.bits .or .i64 x8 (shl .i64 (Int.tmod (wrap64 (rd x0 x1)) 128) x9)))) then (if (wrap64 ((wrap64 (x1 + 1)) + (Go.bits .or .i64 x8 (shl .i64 (Int.tmod (wrap64 (rd x0 x1)) 128) x9)))) ≤ (x0.length : Int) then (some (strOfNums ((x0.take ((wrap64 ((wrap64 (x1 + 1)) + (Go.bits .or .i64 x8 (shl .i64 (Int.tmod (wrap64 (rd x0 x1)) 128) x9)))) : Int).toNat).drop ((wrap64 (x1 + 1)) : Int).toNat), wrap64 ((wrap64 (x1 + 1)) + (Go.bits .or .i64 x8 (shl .i64 (Int.tmod (wrap64 (rd x0 x1)) 128) x9))))) else (none)) else (none)) else (none))))) else (moraineref04_read.l0 k x0 (wrap64 (x1 + 1)) x2 (Go.bits .or .i64 x8 (shl .i64 (Int.tmod (wrap64 (rd x0 x1)) 128) x9)) (wrap64 (x9 + 7)))) else (none)) else (none)) else (none))
end
def moraineref04_read.f (k : Nat) (l0 : List Int) (a1 : Int) (a2 : Int) : Option (ByteArray × Int) := moraineref04_read.l0 k l0 a1 a2 0 0
theorem moraineref04_read.mono_l : ∀ k, (∀ y0 y1 y2 y3 y4, LeO (moraineref04_read.l0 k y0 y1 y2 y3 y4) (moraineref04_read.l0 (k + 1) y0 y1 y2 y3 y4)) ∧ (∀ y0 y1 y2 y3 y4 y5, LeO (moraineref04_read.j1 k y0 y1 y2 y3 y4 y5) (moraineref04_read.j1 (k + 1) y0 y1 y2 y3 y4 y5))
  | 0 => ⟨fun _ _ _ _ _ r h => by simp [moraineref04_read.l0] at h, fun _ _ _ _ _ _ r h => by simp [moraineref04_read.j1] at h⟩
  | k + 1 => by
    obtain ⟨ih0, ih1⟩ := moraineref04_read.mono_l k
    refine ⟨?_, ?_⟩
    · intro y0 y1 y2 y3 y4
      unfold moraineref04_read.l0
      repeat' first
      | (with_reducible exact ih0 _ _ _ _ _)
      | (with_reducible exact ih1 _ _ _ _ _ _)
      | (with_reducible exact LeO.refl _)
      | (with_reducible exact LeO.none _)
      | (with_reducible refine LeO.ite ?_ ?_)
      | (with_reducible refine LeO.bind ?_ (fun _ => ?_))
      | exact ih0 _ _ _ _ _
      | exact ih1 _ _ _ _ _ _
      | exact LeO.none _
      | refine LeO.ite ?_ ?_
      | refine LeO.bind ?_ (fun _ => ?_)
    · intro y0 y1 y2 y3 y4 y5
      unfold moraineref04_read.j1
      repeat' first
      | (with_reducible exact ih0 _ _ _ _ _)
      | (with_reducible exact ih1 _ _ _ _ _ _)
      | (with_reducible exact LeO.refl _)
      | (with_reducible exact LeO.none _)
      | (with_reducible refine LeO.ite ?_ ?_)
      | (with_reducible refine LeO.bind ?_ (fun _ => ?_))
      | exact ih0 _ _ _ _ _
      | exact ih1 _ _ _ _ _ _
      | exact LeO.none _
      | refine LeO.ite ?_ ?_
      | refine LeO.bind ?_ (fun _ => ?_)
theorem moraineref04_read.mono : ∀ a0 a1 a2 k, LeO (moraineref04_read.f k a0 a1 a2) (moraineref04_read.f (k + 1) a0 a1 a2) := by
  intro a0 a1 a2 k
  obtain ⟨ih0, ih1⟩ := moraineref04_read.mono_l k
  unfold moraineref04_read.f
  repeat' first
      | (with_reducible exact ih0 _ _ _ _ _)
      | (with_reducible exact ih1 _ _ _ _ _ _)
      | (with_reducible exact LeO.refl _)
      | (with_reducible exact LeO.none _)
      | (with_reducible refine LeO.ite ?_ ?_)
      | (with_reducible refine LeO.bind ?_ (fun _ => ?_))
      | exact ih0 _ _ _ _ _
      | exact ih1 _ _ _ _ _ _
      | exact LeO.none _
      | refine LeO.ite ?_ ?_
      | refine LeO.bind ?_ (fun _ => ?_)
set_option maxHeartbeats 8000000 in
set_option maxRecDepth 100000 in
theorem moraineref04_read.calls (k : Nat) (A0 : Option Addr) (c0 : Nat) (l0 : List Int) (a1 : Int) (a2 : Int) (r1 : ByteArray) (r2 : Int) (w : World) (hr0 : Kd.C (Kd.int .u8) w A0 l0.length l0) (hc0 : l0.length ≤ c0) (h : moraineref04_read.f k l0 a1 a2 = some (r1, r2)) :
    Calls Try.prog 79 #[.slice A0 l0.length c0, .int .i64 a1, .int .i64 a2] w fun e w' => e = .returned (.tuple #[.string r1, .int .i64 r2]) ∧ Drawn0 w w' := by
  have HR0 := Aside0.mk hr0
  have HC0 := Aside0.mk hc0
  clear hr0 hc0
  have H : (moraineref04_read.l0 k l0 a1 a2 0 0) = some (r1, r2) := h
  clear h
  have H' := Aside0.mk H
  clear H
  go_enter Try.func79, Try.ntmps79
  go_wp2
  go_loopg [1, 8, 9] k (fun kq v1 v8 v9 w' => ∃ (x1_1 : Int) (x8_1 : Int) (x9_1 : Int), v1 = .int .i64 x1_1 ∧ v8 = .int .i64 x8_1 ∧ v9 = .int .i64 x9_1 ∧ Aside0 (moraineref04_read.l0 kq l0 x1_1 a2 x8_1 x9_1 = some (r1, r2)) ∧ Aside0 (kq ≤ k) ∧ Drawn0 w w')
  case atStart => exact ⟨(a1), (0), (0), (by first | rfl | (simp; done) | (simp [*]; done)), (by first | rfl | (simp; done) | (simp [*]; done)), (by first | rfl | (simp; done) | (simp [*]; done)), H', ⟨Nat.le_refl _⟩, by repeat (first | exact Drawn0.refl _ | apply Drawn0.step)⟩
  case round =>
    clear H'
    try clear p2
    obtain ⟨x1_1, x8_1, x9_1, rfl, rfl, rfl, HA, HK1, ⟨m1, rfl⟩⟩ := hrel
    cases gk with
    | zero => exact absurd HA.out (by simp [moraineref04_read.l0])
    | succ k1 =>
      have H := HA.out
      clear HA
      simp only [moraineref04_read.l0] at H
      have HC4 := Aside0.mk H
      clear H
      go_upto_region 2 with (fail)
      go_cut [18] (fun v18 wc => ∃ (kq : Nat) (x18_3 : Bool), v18 = .bool x18_3 ∧ Aside0 (moraineref04_read.j1 kq l0 x1_1 a2 x8_1 x9_1 x18_3 = some (r1, r2)) ∧ Aside0 (kq ≤ k1) ∧ Drawn0 w wc)
      case first =>
        have H := HC4.out
        clear HC4
        by_cases c5 : x1_1 ≥ (l0.length : Int)
        · rw [if_pos c5] at H
          have c5b0 : decide ((l0.length : Int) ≤ x1_1) = true := decide_eq_true c5
          clear c5
          (first | rw [c5b0] | (simp only [i64_w, i32_w]; rw [c5b0]) | skip)
          have H' := Aside0.mk H
          clear H
          go_wp2
          go_meet
          case rel => exact ⟨_, (true), (by first | rfl | (simp; done) | (simp [*]; done)), H', ⟨by have := HK1.out; first | omega | exact Nat.le_refl _⟩, by repeat (first | exact Drawn0.refl _ | apply Drawn0.step)⟩
        · rw [if_neg c5] at H
          have c5b0 : decide ((l0.length : Int) ≤ x1_1) = false := decide_eq_false c5
          clear c5
          (first | rw [c5b0] | (simp only [i64_w, i32_w]; rw [c5b0]) | skip)
          have H' := Aside0.mk H
          clear H
          go_wp2
          go_meet
          case rel => exact ⟨_, (decide (x9_1 > 21)), (by first | rfl | (simp; done) | (simp [*]; done)), H', ⟨by have := HK1.out; first | omega | exact Nat.le_refl _⟩, by repeat (first | exact Drawn0.refl _ | apply Drawn0.step)⟩
      case rest =>
        clear HC4
        try clear p2
        try clear c5
        try clear c5b0
        try clear p2
        obtain ⟨kq, x18_3, rfl, HA, HJ3, ⟨mc3, rfl⟩⟩ := hcut
        cases kq with
        | zero => exact absurd HA.out (by simp [moraineref04_read.j1])
        | succ kj3 =>
          have H := HA.out
          clear HA
          simp only [moraineref04_read.j1] at H
          by_cases c6 : x18_3 = true
          · subst c6
            have H1 : (some ((⟨#[]⟩ : ByteArray), (-1))) = some (r1, r2) := by rw [if_pos rfl] at H; exact H
            clear H
            have H := H1
            clear H1
            simp only [Option.some.injEq, Prod.mk.injEq] at H
            obtain ⟨rfl, rfl⟩ := H
            go_wp2
            go_ret2
            exact ⟨by first | rfl | (simp; done) | (simp [*]; done), by repeat (first | exact Drawn0.refl _ | apply Drawn0.step)⟩
          · replace c6 := Bool.eq_false_iff.mpr c6
            subst c6
            have H1 : (if 0 ≤ x1_1 then (if x1_1 < (l0.length : Int) then (if 0 ≤ x9_1 then (if (wrap64 (rd l0 x1_1)) < 128 then (if (wrap64 (rd l0 x1_1)) = 0 then (if x9_1 > 0 then (some ((⟨#[]⟩ : ByteArray), (-1))) else (if (Go.bits .or .i64 x8_1 (shl .i64 (Int.tmod (wrap64 (rd l0 x1_1)) 128) x9_1)) > a2 then (some ((⟨#[]⟩ : ByteArray), (-1))) else (if (Go.bits .or .i64 x8_1 (shl .i64 (Int.tmod (wrap64 (rd l0 x1_1)) 128) x9_1)) > (wrap64 ((l0.length : Int) - (wrap64 (x1_1 + 1)))) then (some ((⟨#[]⟩ : ByteArray), (-1))) else (if 0 ≤ (wrap64 (x1_1 + 1)) then (if (wrap64 (x1_1 + 1)) ≤ (wrap64 ((wrap64 (x1_1 + 1)) + (Go.bits .or .i64 x8_1 (shl .i64 (Int.tmod (wrap64 (rd l0 x1_1)) 128) x9_1)))) then (if (wrap64 ((wrap64 (x1_1 + 1)) + (Go.bits .or .i64 x8_1 (shl .i64 (Int.tmod (wrap64 (rd l0 x1_1)) 128) x9_1)))) ≤ (l0.length : Int) then (some (strOfNums ((l0.take ((wrap64 ((wrap64 (x1_1 + 1)) + (Go.bits .or .i64 x8_1 (shl .i64 (Int.tmod (wrap64 (rd l0 x1_1)) 128) x9_1)))) : Int).toNat).drop ((wrap64 (x1_1 + 1)) : Int).toNat), wrap64 ((wrap64 (x1_1 + 1)) + (Go.bits .or .i64 x8_1 (shl .i64 (Int.tmod (wrap64 (rd l0 x1_1)) 128) x9_1))))) else (none)) else (none)) else (none))))) else (if (Go.bits .or .i64 x8_1 (shl .i64 (Int.tmod (wrap64 (rd l0 x1_1)) 128) x9_1)) > a2 then (some ((⟨#[]⟩ : ByteArray), (-1))) else (if (Go.bits .or .i64 x8_1 (shl .i64 (Int.tmod (wrap64 (rd l0 x1_1)) 128) x9_1)) > (wrap64 ((l0.length : Int) - (wrap64 (x1_1 + 1)))) then (some ((⟨#[]⟩ : ByteArray), (-1))) else (if 0 ≤ (wrap64 (x1_1 + 1)) then (if (wrap64 (x1_1 + 1)) ≤ (wrap64 ((wrap64 (x1_1 + 1)) + (Go.bits .or .i64 x8_1 (shl .i64 (Int.tmod (wrap64 (rd l0 x1_1)) 128) x9_1)))) then (if (wrap64 ((wrap64 (x1_1 + 1)) + (Go.bits .or .i64 x8_1 (shl .i64 (Int.tmod (wrap64 (rd l0 x1_1)) 128) x9_1)))) ≤ (l0.length : Int) then (some (strOfNums ((l0.take ((wrap64 ((wrap64 (x1_1 + 1)) + (Go.bits .or .i64 x8_1 (shl .i64 (Int.tmod (wrap64 (rd l0 x1_1)) 128) x9_1)))) : Int).toNat).drop ((wrap64 (x1_1 + 1)) : Int).toNat), wrap64 ((wrap64 (x1_1 + 1)) + (Go.bits .or .i64 x8_1 (shl .i64 (Int.tmod (wrap64 (rd l0 x1_1)) 128) x9_1))))) else (none)) else (none)) else (none))))) else (moraineref04_read.l0 kj3 l0 (wrap64 (x1_1 + 1)) a2 (Go.bits .or .i64 x8_1 (shl .i64 (Int.tmod (wrap64 (rd l0 x1_1)) 128) x9_1)) (wrap64 (x9_1 + 7)))) else (none)) else (none)) else (none)) = some (r1, r2) := by rw [if_neg (show ¬ (false = true) by decide)] at H; exact H
            clear H
            have H := H1
            clear H1
            by_cases c7 : 0 ≤ x1_1
            · rw [if_pos c7] at H
              have c7b0 : decide (0 ≤ x1_1) = true := decide_eq_true c7
              clear c7
              by_cases c8 : x1_1 < (l0.length : Int)
              · rw [if_pos c8] at H
                have c8b0 : decide (x1_1 < (l0.length : Int)) = true := decide_eq_true c8
                clear c8
                by_cases c9 : 0 ≤ x9_1
                · rw [if_pos c9] at H
                  have c9b0 := eq_true c9
                  have c9b1 : decide (0 ≤ x9_1) = true := decide_eq_true c9
                  clear c9
                  obtain ⟨ji10, hji10⟩ : ∃ j_ : Int, (shl .i64 (Int.tmod (wrap64 (rd l0 x1_1)) 128) x9_1) = j_ := ⟨_, rfl⟩
                  replace H : (if (wrap64 (rd l0 x1_1)) < 128 then (if (wrap64 (rd l0 x1_1)) = 0 then (if x9_1 > 0 then (some ((⟨#[]⟩ : ByteArray), (-1))) else (if (Go.bits .or .i64 x8_1 (ji10)) > a2 then (some ((⟨#[]⟩ : ByteArray), (-1))) else (if (Go.bits .or .i64 x8_1 (ji10)) > (wrap64 ((l0.length : Int) - (wrap64 (x1_1 + 1)))) then (some ((⟨#[]⟩ : ByteArray), (-1))) else (if 0 ≤ (wrap64 (x1_1 + 1)) then (if (wrap64 (x1_1 + 1)) ≤ (wrap64 ((wrap64 (x1_1 + 1)) + (Go.bits .or .i64 x8_1 (ji10)))) then (if (wrap64 ((wrap64 (x1_1 + 1)) + (Go.bits .or .i64 x8_1 (ji10)))) ≤ (l0.length : Int) then (some (strOfNums ((l0.take ((wrap64 ((wrap64 (x1_1 + 1)) + (Go.bits .or .i64 x8_1 (ji10)))) : Int).toNat).drop ((wrap64 (x1_1 + 1)) : Int).toNat), wrap64 ((wrap64 (x1_1 + 1)) + (Go.bits .or .i64 x8_1 (ji10))))) else (none)) else (none)) else (none))))) else (if (Go.bits .or .i64 x8_1 (ji10)) > a2 then (some ((⟨#[]⟩ : ByteArray), (-1))) else (if (Go.bits .or .i64 x8_1 (ji10)) > (wrap64 ((l0.length : Int) - (wrap64 (x1_1 + 1)))) then (some ((⟨#[]⟩ : ByteArray), (-1))) else (if 0 ≤ (wrap64 (x1_1 + 1)) then (if (wrap64 (x1_1 + 1)) ≤ (wrap64 ((wrap64 (x1_1 + 1)) + (Go.bits .or .i64 x8_1 (ji10)))) then (if (wrap64 ((wrap64 (x1_1 + 1)) + (Go.bits .or .i64 x8_1 (ji10)))) ≤ (l0.length : Int) then (some (strOfNums ((l0.take ((wrap64 ((wrap64 (x1_1 + 1)) + (Go.bits .or .i64 x8_1 (ji10)))) : Int).toNat).drop ((wrap64 (x1_1 + 1)) : Int).toNat), wrap64 ((wrap64 (x1_1 + 1)) + (Go.bits .or .i64 x8_1 (ji10))))) else (none)) else (none)) else (none))))) else (moraineref04_read.l0 kj3 l0 (wrap64 (x1_1 + 1)) a2 (Go.bits .or .i64 x8_1 (ji10)) (wrap64 (x9_1 + 7)))) = some (r1, r2) := by first | (rw [hji10] at H; exact H) | (simp only [hji10] at H ⊢; exact H)
                  have hji10_ : (IntKind.i64.wrap ((Int.tmod (wrap64 (rd l0 x1_1)) 128) * 2 ^ min x9_1.toNat 64)) = ji10 := hji10
                  have hji10z : x9_1 ≤ 64 → (IntKind.i64.wrap ((Int.tmod (wrap64 (rd l0 x1_1)) 128) * 2 ^ x9_1.toNat)) = ji10 := shl_small hji10
                  have hji10y : (wrap64 ((Int.tmod (wrap64 (rd l0 x1_1)) 128) * 2 ^ min x9_1.toNat 64)) = ji10 := (i64_w _).symm.trans hji10_
                  have hji10x : x9_1 ≤ 64 → (wrap64 ((Int.tmod (wrap64 (rd l0 x1_1)) 128) * 2 ^ x9_1.toNat)) = ji10 := fun h_ => (i64_w _).symm.trans (hji10z h_)
                  by_cases c11 : (wrap64 (rd l0 x1_1)) < 128
                  · rw [if_pos c11] at H
                    have c11b0 : decide ((wrap64 (rd l0 x1_1)) < 128) = true := decide_eq_true c11
                    clear c11
                    by_cases c12 : (wrap64 (rd l0 x1_1)) = 0
                    · rw [if_pos c12] at H
                      have c12b0 : ((wrap64 (rd l0 x1_1)) == 0) = true := beq_iff_eq.mpr c12
                      have c12b1 : ((wrap64 (rd l0 x1_1)) != 0) = false := bne_eq_false_iff_eq.mpr c12
                      clear c12
                      by_cases c13 : x9_1 > 0
                      · rw [if_pos c13] at H
                        have c13b0 : decide (0 < x9_1) = true := decide_eq_true c13
                        clear c13
                        simp only [Option.some.injEq, Prod.mk.injEq] at H
                        obtain ⟨rfl, rfl⟩ := H
                        have p228 : 0 ≤ (x1_1 : Int) := of_decide_eq_true (by first | (with_reducible assumption) | assumption)
                        have q228 : x1_1 < (l0.length : Int) := of_decide_eq_true (by first | (with_reducible assumption) | assumption)
                        obtain ⟨ad228, e228, hx228_0⟩ := Kd.at_int HR0.out x1_1 p228 q228
                        cases e228
                        replace p228 := eq_true p228
                        replace q228 := eq_true q228
                        go_wp2
                        go_ret2
                        exact ⟨by first | rfl | (simp; done) | (simp only [← hji10] <;> (first | rfl | simp)) | (simp [*]; done), by repeat (first | exact Drawn0.refl _ | apply Drawn0.step)⟩
                      · rw [if_neg c13] at H
                        have c13b0 : decide (0 < x9_1) = false := decide_eq_false c13
                        clear c13
                        by_cases c14 : (Go.bits .or .i64 x8_1 (ji10)) > a2
                        · rw [if_pos c14] at H
                          have c14b0 : decide (a2 < (Go.bits .or .i64 x8_1 (ji10))) = true := decide_eq_true c14
                          clear c14
                          simp only [Option.some.injEq, Prod.mk.injEq] at H
                          obtain ⟨rfl, rfl⟩ := H
                          have p228 : 0 ≤ (x1_1 : Int) := of_decide_eq_true (by first | (with_reducible assumption) | assumption)
                          have q228 : x1_1 < (l0.length : Int) := of_decide_eq_true (by first | (with_reducible assumption) | assumption)
                          obtain ⟨ad228, e228, hx228_0⟩ := Kd.at_int HR0.out x1_1 p228 q228
                          cases e228
                          replace p228 := eq_true p228
                          replace q228 := eq_true q228
                          go_wp2
                          go_ret2
                          exact ⟨by first | rfl | (simp; done) | (simp only [← hji10] <;> (first | rfl | simp)) | (simp [*]; done), by repeat (first | exact Drawn0.refl _ | apply Drawn0.step)⟩
                        · rw [if_neg c14] at H
                          have c14b0 : decide (a2 < (Go.bits .or .i64 x8_1 (ji10))) = false := decide_eq_false c14
                          clear c14
                          by_cases c15 : (Go.bits .or .i64 x8_1 (ji10)) > (wrap64 ((l0.length : Int) - (wrap64 (x1_1 + 1))))
                          · rw [if_pos c15] at H
                            have c15b0 : decide ((wrap64 ((l0.length : Int) - (wrap64 (x1_1 + 1)))) < (Go.bits .or .i64 x8_1 (ji10))) = true := decide_eq_true c15
                            clear c15
                            simp only [Option.some.injEq, Prod.mk.injEq] at H
                            obtain ⟨rfl, rfl⟩ := H
                            have p228 : 0 ≤ (x1_1 : Int) := of_decide_eq_true (by first | (with_reducible assumption) | assumption)
                            have q228 : x1_1 < (l0.length : Int) := of_decide_eq_true (by first | (with_reducible assumption) | assumption)
                            obtain ⟨ad228, e228, hx228_0⟩ := Kd.at_int HR0.out x1_1 p228 q228
                            cases e228
                            replace p228 := eq_true p228
                            replace q228 := eq_true q228
                            go_wp2
                            go_ret2
                            exact ⟨by first | rfl | (simp; done) | (simp only [← hji10] <;> (first | rfl | simp)) | (simp [*]; done), by repeat (first | exact Drawn0.refl _ | apply Drawn0.step)⟩
                          · rw [if_neg c15] at H
                            have c15b0 : decide ((wrap64 ((l0.length : Int) - (wrap64 (x1_1 + 1)))) < (Go.bits .or .i64 x8_1 (ji10))) = false := decide_eq_false c15
                            clear c15
                            obtain ⟨ji16, hji16⟩ : ∃ j_ : Int, (wrap64 (x1_1 + 1)) = j_ := ⟨_, rfl⟩
                            replace H : (if 0 ≤ (ji16) then (if (ji16) ≤ (wrap64 ((ji16) + (Go.bits .or .i64 x8_1 (ji10)))) then (if (wrap64 ((ji16) + (Go.bits .or .i64 x8_1 (ji10)))) ≤ (l0.length : Int) then (some (strOfNums ((l0.take ((wrap64 ((ji16) + (Go.bits .or .i64 x8_1 (ji10)))) : Int).toNat).drop ((ji16) : Int).toNat), wrap64 ((ji16) + (Go.bits .or .i64 x8_1 (ji10))))) else (none)) else (none)) else (none)) = some (r1, r2) := by first | (rw [hji16] at H; exact H) | (simp only [hji16] at H ⊢; exact H)
                            (try rw [hji16] at c15b0)
                            have hji16w : (IntKind.i64.wrap (x1_1 + 1)) = ji16 := (i64_w _).trans hji16
                            by_cases c17 : 0 ≤ (ji16)
                            · rw [if_pos c17] at H
                              have c17b0 := eq_true c17
                              have c17b1 : decide (0 ≤ (ji16)) = true := decide_eq_true c17
                              clear c17
                              by_cases c18 : (ji16) ≤ (wrap64 ((ji16) + (Go.bits .or .i64 x8_1 (ji10))))
                              · rw [if_pos c18] at H
                                have c18b0 := eq_true c18
                                have c18b1 : decide ((ji16) ≤ (wrap64 ((ji16) + (Go.bits .or .i64 x8_1 (ji10))))) = true := decide_eq_true c18
                                by_cases c19 : (wrap64 ((ji16) + (Go.bits .or .i64 x8_1 (ji10)))) ≤ (l0.length : Int)
                                · rw [if_pos c19] at H
                                  have c19b0 := eq_true c19
                                  have c19b1 : decide ((wrap64 ((ji16) + (Go.bits .or .i64 x8_1 (ji10)))) ≤ (l0.length : Int)) = true := decide_eq_true c19
                                  simp only [Option.some.injEq, Prod.mk.injEq] at H
                                  obtain ⟨rfl, rfl⟩ := H
                                  have p228 : 0 ≤ (x1_1 : Int) := of_decide_eq_true (by first | (with_reducible assumption) | assumption)
                                  have q228 : x1_1 < (l0.length : Int) := of_decide_eq_true (by first | (with_reducible assumption) | assumption)
                                  obtain ⟨ad228, e228, hx228_0⟩ := Kd.at_int HR0.out x1_1 p228 q228
                                  cases e228
                                  replace p228 := eq_true p228
                                  replace q228 := eq_true q228
                                  obtain ⟨i020, hi020, _, hsz20, _⟩ := info_parts info5
                                  obtain ⟨A20, hcut20, hA20, hC20⟩ := print_mid_of (P := Try.prog) (Value.int .u8) 0 33 5 .i64 .i64 Try.underlying33 hi020 hsz20 (some ad228) c0 l0 (ji16) (wrap64 ((ji16) + (Go.bits .or .i64 x8_1 (ji10)))) (of_decide_eq_true (by first | (with_reducible assumption) | assumption)) (by first | omega | exact of_decide_eq_true (by first | (with_reducible assumption) | assumption)) (of_decide_eq_true (by first | (with_reducible assumption) | assumption)) HC0.out
                                  have HR229 := Aside0.mk (Kd.C_of_reads (h1 := fun _ => rfl) (hA20 _ (Kd.reads_of_C HR0.out)))
                                  have HC229 := Aside0.mk hC20
                                  clear hA20 hC20 hi020 hsz20
                                  have hcv21 := fun nd_ => Kd.C_string (P := Try.prog) (A := A20) (c := (c0 - (ji16).toNat)) Try.underlying33 Try.underlying5 Try.underlying9 (Kd.C_drewN HR229.out nd_)
                                  generalize ((l0.take ((wrap64 ((ji16) + (Go.bits .or .i64 x8_1 (ji10)))) : Int).toNat).drop ((ji16) : Int).toNat).length = m_ at hcut20 hcv21
                                  go_wp2
                                  go_ret2
                                  exact ⟨by first | rfl | (simp; done) | (simp only [← hji10, ← hji16] <;> (first | rfl | simp)) | (simp [*]; done), by repeat (first | exact Drawn0.refl _ | apply Drawn0.step)⟩
                                · rw [if_neg c19] at H
                                  exact absurd H (by simp)
                              · rw [if_neg c18] at H
                                exact absurd H (by simp)
                            · rw [if_neg c17] at H
                              exact absurd H (by simp)
                    · rw [if_neg c12] at H
                      have c12b0 : ((wrap64 (rd l0 x1_1)) == 0) = false := beq_eq_false_iff_ne.mpr c12
                      have c12b1 : ((wrap64 (rd l0 x1_1)) != 0) = true := bne_iff_ne.mpr c12
                      by_cases c22 : (Go.bits .or .i64 x8_1 (ji10)) > a2
                      · rw [if_pos c22] at H
                        have c22b0 : decide (a2 < (Go.bits .or .i64 x8_1 (ji10))) = true := decide_eq_true c22
                        clear c22
                        simp only [Option.some.injEq, Prod.mk.injEq] at H
                        obtain ⟨rfl, rfl⟩ := H
                        have p228 : 0 ≤ (x1_1 : Int) := of_decide_eq_true (by first | (with_reducible assumption) | assumption)
                        have q228 : x1_1 < (l0.length : Int) := of_decide_eq_true (by first | (with_reducible assumption) | assumption)
                        obtain ⟨ad228, e228, hx228_0⟩ := Kd.at_int HR0.out x1_1 p228 q228
                        cases e228
                        replace p228 := eq_true p228
                        replace q228 := eq_true q228
                        go_wp2
                        go_ret2
                        exact ⟨by first | rfl | (simp; done) | (simp only [← hji10] <;> (first | rfl | simp)) | (simp [*]; done), by repeat (first | exact Drawn0.refl _ | apply Drawn0.step)⟩
                      · rw [if_neg c22] at H
                        have c22b0 : decide (a2 < (Go.bits .or .i64 x8_1 (ji10))) = false := decide_eq_false c22
                        clear c22
                        by_cases c23 : (Go.bits .or .i64 x8_1 (ji10)) > (wrap64 ((l0.length : Int) - (wrap64 (x1_1 + 1))))
                        · rw [if_pos c23] at H
                          have c23b0 : decide ((wrap64 ((l0.length : Int) - (wrap64 (x1_1 + 1)))) < (Go.bits .or .i64 x8_1 (ji10))) = true := decide_eq_true c23
                          clear c23
                          simp only [Option.some.injEq, Prod.mk.injEq] at H
                          obtain ⟨rfl, rfl⟩ := H
                          have p228 : 0 ≤ (x1_1 : Int) := of_decide_eq_true (by first | (with_reducible assumption) | assumption)
                          have q228 : x1_1 < (l0.length : Int) := of_decide_eq_true (by first | (with_reducible assumption) | assumption)
                          obtain ⟨ad228, e228, hx228_0⟩ := Kd.at_int HR0.out x1_1 p228 q228
                          cases e228
                          replace p228 := eq_true p228
                          replace q228 := eq_true q228
                          go_wp2
                          go_ret2
                          exact ⟨by first | rfl | (simp; done) | (simp only [← hji10] <;> (first | rfl | simp)) | (simp [*]; done), by repeat (first | exact Drawn0.refl _ | apply Drawn0.step)⟩
                        · rw [if_neg c23] at H
                          have c23b0 : decide ((wrap64 ((l0.length : Int) - (wrap64 (x1_1 + 1)))) < (Go.bits .or .i64 x8_1 (ji10))) = false := decide_eq_false c23
                          clear c23
                          obtain ⟨ji24, hji24⟩ : ∃ j_ : Int, (wrap64 (x1_1 + 1)) = j_ := ⟨_, rfl⟩
                          replace H : (if 0 ≤ (ji24) then (if (ji24) ≤ (wrap64 ((ji24) + (Go.bits .or .i64 x8_1 (ji10)))) then (if (wrap64 ((ji24) + (Go.bits .or .i64 x8_1 (ji10)))) ≤ (l0.length : Int) then (some (strOfNums ((l0.take ((wrap64 ((ji24) + (Go.bits .or .i64 x8_1 (ji10)))) : Int).toNat).drop ((ji24) : Int).toNat), wrap64 ((ji24) + (Go.bits .or .i64 x8_1 (ji10))))) else (none)) else (none)) else (none)) = some (r1, r2) := by first | (rw [hji24] at H; exact H) | (simp only [hji24] at H ⊢; exact H)
                          (try rw [hji24] at c23b0)
                          have hji24w : (IntKind.i64.wrap (x1_1 + 1)) = ji24 := (i64_w _).trans hji24
                          by_cases c25 : 0 ≤ (ji24)
                          · rw [if_pos c25] at H
                            have c25b0 := eq_true c25
                            have c25b1 : decide (0 ≤ (ji24)) = true := decide_eq_true c25
                            clear c25
                            by_cases c26 : (ji24) ≤ (wrap64 ((ji24) + (Go.bits .or .i64 x8_1 (ji10))))
                            · rw [if_pos c26] at H
                              have c26b0 := eq_true c26
                              have c26b1 : decide ((ji24) ≤ (wrap64 ((ji24) + (Go.bits .or .i64 x8_1 (ji10))))) = true := decide_eq_true c26
                              by_cases c27 : (wrap64 ((ji24) + (Go.bits .or .i64 x8_1 (ji10)))) ≤ (l0.length : Int)
                              · rw [if_pos c27] at H
                                have c27b0 := eq_true c27
                                have c27b1 : decide ((wrap64 ((ji24) + (Go.bits .or .i64 x8_1 (ji10)))) ≤ (l0.length : Int)) = true := decide_eq_true c27
                                simp only [Option.some.injEq, Prod.mk.injEq] at H
                                obtain ⟨rfl, rfl⟩ := H
                                have p228 : 0 ≤ (x1_1 : Int) := of_decide_eq_true (by first | (with_reducible assumption) | assumption)
                                have q228 : x1_1 < (l0.length : Int) := of_decide_eq_true (by first | (with_reducible assumption) | assumption)
                                obtain ⟨ad228, e228, hx228_0⟩ := Kd.at_int HR0.out x1_1 p228 q228
                                cases e228
                                replace p228 := eq_true p228
                                replace q228 := eq_true q228
                                obtain ⟨i028, hi028, _, hsz28, _⟩ := info_parts info5
                                obtain ⟨A28, hcut28, hA28, hC28⟩ := print_mid_of (P := Try.prog) (Value.int .u8) 0 33 5 .i64 .i64 Try.underlying33 hi028 hsz28 (some ad228) c0 l0 (ji24) (wrap64 ((ji24) + (Go.bits .or .i64 x8_1 (ji10)))) (of_decide_eq_true (by first | (with_reducible assumption) | assumption)) (by first | omega | exact of_decide_eq_true (by first | (with_reducible assumption) | assumption)) (of_decide_eq_true (by first | (with_reducible assumption) | assumption)) HC0.out
                                have HR230 := Aside0.mk (Kd.C_of_reads (h1 := fun _ => rfl) (hA28 _ (Kd.reads_of_C HR0.out)))
                                have HC230 := Aside0.mk hC28
                                clear hA28 hC28 hi028 hsz28
                                have hcv29 := fun nd_ => Kd.C_string (P := Try.prog) (A := A28) (c := (c0 - (ji24).toNat)) Try.underlying33 Try.underlying5 Try.underlying9 (Kd.C_drewN HR230.out nd_)
                                generalize ((l0.take ((wrap64 ((ji24) + (Go.bits .or .i64 x8_1 (ji10)))) : Int).toNat).drop ((ji24) : Int).toNat).length = m_ at hcut28 hcv29
                                go_wp2
                                go_ret2
                                exact ⟨by first | rfl | (simp; done) | (simp only [← hji10, ← hji24] <;> (first | rfl | simp)) | (simp [*]; done), by repeat (first | exact Drawn0.refl _ | apply Drawn0.step)⟩
                              · rw [if_neg c27] at H
                                exact absurd H (by simp)
                            · rw [if_neg c26] at H
                              exact absurd H (by simp)
                          · rw [if_neg c25] at H
                            exact absurd H (by simp)
                  · rw [if_neg c11] at H
                    have c11b0 : decide ((wrap64 (rd l0 x1_1)) < 128) = false := decide_eq_false c11
                    clear c11
                    have H' := Aside0.mk H
                    clear H
                    have p228 : 0 ≤ (x1_1 : Int) := of_decide_eq_true (by first | (with_reducible assumption) | assumption)
                    have q228 : x1_1 < (l0.length : Int) := of_decide_eq_true (by first | (with_reducible assumption) | assumption)
                    obtain ⟨ad228, e228, hx228_0⟩ := Kd.at_int HR0.out x1_1 p228 q228
                    cases e228
                    replace p228 := eq_true p228
                    replace q228 := eq_true q228
                    go_wp2
                    go_roundg kj3
                    case measure => have := HK1.out; have := HJ3.out; omega
                    case rel => exact ⟨(wrap64 (x1_1 + 1)), (Go.bits .or .i64 x8_1 (ji10)), (wrap64 (x9_1 + 7)), (by first | rfl | (simp; done) | (simp [*]; done)), (by first | rfl | (simp; done) | (simp only [← hji10] <;> (first | rfl | simp)) | (simp [*]; done)), (by first | rfl | (simp; done) | (simp [*]; done)), H', ⟨by have := HK1.out; have := HJ3.out; omega⟩, by repeat (first | exact Drawn0.refl _ | apply Drawn0.step)⟩
                · rw [if_neg c9] at H
                  exact absurd H (by simp)
              · rw [if_neg c8] at H
                exact absurd H (by simp)
            · rw [if_neg c7] at H
              exact absurd H (by simp)

end Go.Proofs.Ythkooncibfkepaa.G

/- Printed by the session's program over the kit's print, out of the translation: functions as plain Lean functions, and the proofs that the calls come to them. -/
namespace Go.Proofs.Ythkooncibfkepaa.G
open Go.RowKit Go.Proofs.YthkooncibfkepaaW.PrintWords Go.Proofs.YthkooncibfkepaaW.PrintLast Go.Proofs.YthkooncibfkepaaW.PrintMore
attribute [local go_sem] max2_int min2_int max_two min_two max_three min_three max_four min_four   -- for this text's walks alone
set_option linter.unusedVariables false
set_option linter.unusedSimpArgs false

/-! ### moraineref04_op: function 67 -/
def moraineref04_op.j0 : Nat → List Int → Int → Bool → Int → ByteArray → ByteArray → Option (Int × ByteArray × ByteArray × Int)
  | 0, _, _, _, _, _, _ => none
  | k + 1, x0, x1, x32, x234000, x234001, x234002 => if x32 = true then ((moraineref04_read.f k x0 x1 65536).bind fun bt236 => (if bt236.2 < 0 then (some (0, (⟨#[]⟩ : ByteArray), (⟨#[]⟩ : ByteArray), (-1))) else ((moraineref04_May.f k x234000 x234001 bt236.1).bind fun t238 => (if t238 = true then (some (x234000, x234001, bt236.1, bt236.2)) else (some (0, (⟨#[]⟩ : ByteArray), (⟨#[]⟩ : ByteArray), (-1))))))) else (if x1 < 0 then (some (0, (⟨#[]⟩ : ByteArray), (⟨#[]⟩ : ByteArray), (-1))) else ((moraineref04_May.f k x234000 x234001 x234002).bind fun t239 => (if t239 = true then (some (x234000, x234001, x234002, x1)) else (some (0, (⟨#[]⟩ : ByteArray), (⟨#[]⟩ : ByteArray), (-1))))))
def moraineref04_op.f (k : Nat) (l0 : List Int) (a1 : Int) : Option (Int × ByteArray × ByteArray × Int) := if a1 ≥ (l0.length : Int) then (some (0, (⟨#[]⟩ : ByteArray), (⟨#[]⟩ : ByteArray), (-1))) else (if 0 ≤ a1 then (if a1 < (l0.length : Int) then ((moraineref04_read.f k l0 (wrap64 (a1 + 1)) 1024).bind fun bt234 => (if bt234.2 ≥ 0 then (moraineref04_op.j0 k l0 bt234.2 ((wrap64 (rd l0 a1)) != 0) (wrap64 (rd l0 a1)) bt234.1 (⟨#[]⟩ : ByteArray)) else (moraineref04_op.j0 k l0 bt234.2 false (wrap64 (rd l0 a1)) bt234.1 (⟨#[]⟩ : ByteArray)))) else (none)) else (none))
theorem moraineref04_op.mono_l : ∀ k, (∀ y0 y1 y2 y3 y4 y5, LeO (moraineref04_op.j0 k y0 y1 y2 y3 y4 y5) (moraineref04_op.j0 (k + 1) y0 y1 y2 y3 y4 y5))
  | 0 => fun _ _ _ _ _ _ r h => by simp [moraineref04_op.j0] at h
  | k + 1 => by
    have ih0 := moraineref04_op.mono_l k
    · intro y0 y1 y2 y3 y4 y5
      unfold moraineref04_op.j0
      repeat' first
      | (with_reducible exact ih0 _ _ _ _ _ _)
      | (with_reducible exact moraineref04_May.mono _ _ _ _)
      | (with_reducible exact moraineref04_read.mono _ _ _ _)
      | (with_reducible exact LeO.refl _)
      | (with_reducible exact LeO.none _)
      | (with_reducible refine LeO.ite ?_ ?_)
      | (with_reducible refine LeO.bind ?_ (fun _ => ?_))
      | exact ih0 _ _ _ _ _ _
      | exact moraineref04_May.mono _ _ _ _
      | exact moraineref04_read.mono _ _ _ _
      | exact LeO.none _
      | refine LeO.ite ?_ ?_
      | refine LeO.bind ?_ (fun _ => ?_)
theorem moraineref04_op.mono : ∀ a0 a1 k, LeO (moraineref04_op.f k a0 a1) (moraineref04_op.f (k + 1) a0 a1) := by
  intro a0 a1 k
  have ih0 := moraineref04_op.mono_l k
  unfold moraineref04_op.f
  repeat' first
      | (with_reducible exact ih0 _ _ _ _ _ _)
      | (with_reducible exact moraineref04_May.mono _ _ _ _)
      | (with_reducible exact moraineref04_read.mono _ _ _ _)
      | (with_reducible exact LeO.refl _)
      | (with_reducible exact LeO.none _)
      | (with_reducible refine LeO.ite ?_ ?_)
      | (with_reducible refine LeO.bind ?_ (fun _ => ?_))
      | exact ih0 _ _ _ _ _ _
      | exact moraineref04_May.mono _ _ _ _
      | exact moraineref04_read.mono _ _ _ _
      | exact LeO.none _
      | refine LeO.ite ?_ ?_
      | refine LeO.bind ?_ (fun _ => ?_)
set_option maxHeartbeats 8000000 in
set_option maxRecDepth 100000 in
theorem moraineref04_op.calls (k : Nat) (A0 : Option Addr) (c0 : Nat) (l0 : List Int) (a1 : Int) (r1 : Int) (r2 : ByteArray) (r3 : ByteArray) (r4 : Int) (w : World) (hr0 : Kd.C (Kd.int .u8) w A0 l0.length l0) (hc0 : l0.length ≤ c0) (h : moraineref04_op.f k l0 a1 = some (r1, r2, r3, r4)) :
    Calls Try.prog 67 #[.slice A0 l0.length c0, .int .i64 a1] w fun e w' => e = .returned (.tuple #[.agg #[.int .i64 r1, .string r2, .string r3], .int .i64 r4]) ∧ Below w.heap.size w w' := by
  have hu65 := Try.underlying65
  have HR0 := Aside0.mk hr0
  have HC0 := Aside0.mk hc0
  clear hr0 hc0
  have HB := Aside0.mk (Below.refl w.heap.size w)
  have H : (if a1 ≥ (l0.length : Int) then (some (0, (⟨#[]⟩ : ByteArray), (⟨#[]⟩ : ByteArray), (-1))) else (if 0 ≤ a1 then (if a1 < (l0.length : Int) then ((moraineref04_read.f k l0 (wrap64 (a1 + 1)) 1024).bind fun bt234 => (if bt234.2 ≥ 0 then (moraineref04_op.j0 k l0 bt234.2 ((wrap64 (rd l0 a1)) != 0) (wrap64 (rd l0 a1)) bt234.1 (⟨#[]⟩ : ByteArray)) else (moraineref04_op.j0 k l0 bt234.2 false (wrap64 (rd l0 a1)) bt234.1 (⟨#[]⟩ : ByteArray)))) else (none)) else (none))) = some (r1, r2, r3, r4) := h
  clear h
  by_cases c3 : a1 ≥ (l0.length : Int)
  · rw [if_pos c3] at H
    have c3b0 : decide ((l0.length : Int) ≤ a1) = true := decide_eq_true c3
    clear c3
    simp only [Option.some.injEq, Prod.mk.injEq] at H
    obtain ⟨rfl, rfl, rfl, rfl⟩ := H
    go_enter Try.func67, Try.ntmps67
    go_wp2_with (first | ((with_reducible refine gate_dst (N := 4) rfl ?_); refine box_event ?hg (N := 4) ?hd (cs := #[.int .i64 0, .string (⟨#[]⟩ : ByteArray), .string (⟨#[]⟩ : ByteArray)]) (t := 65) ?hr ?_; (case hd => rfl); (case hg => rfl); (case hr => first | (go_simp; done) | (go_simp; rfl)); intro gb231 hg w4 hbox hb; have n0_ := Aside0.mk (below_step (by repeat (first | (with_reducible first | exact HB.out | apply below_alloc | apply pw_below_drewN | apply below_drew1) | exact HB.out)) hb); have n1_ := Aside0.mk (hbox); have n2_ := Aside0.mk ((by rw [hg]; exact (below_size (by repeat (first | (with_reducible first | exact HB.out | apply below_alloc | apply pw_below_drewN | apply below_drew1) | exact HB.out))) : w.heap.size ≤ gb231)); have n3_ := Aside0.mk ((by rw [hg]; exact (below_size (by repeat (first | (with_reducible first | exact HB.out | apply below_alloc | apply pw_below_drewN | apply below_drew1) | exact HB.out))) : w.heap.size ≤ gb231)); clear HB; have HB := n0_; have BK231 := n1_; have GW231 := n2_; have GE231 := n3_; clear n0_ n1_ n2_ n3_; clear hb hbox hg; have hcz5_0 : w4.cell? ⟨gb231, 0, none⟩ = some (.int .i64 0) := (blk_cell BK231.out 0).trans rfl; have hcz5_1 : w4.cell? ⟨gb231, 1, none⟩ = some (.string (⟨#[]⟩ : ByteArray)) := (blk_cell BK231.out 1).trans rfl; have hcz5_2 : w4.cell? ⟨gb231, 2, none⟩ = some (.string (⟨#[]⟩ : ByteArray)) := (blk_cell BK231.out 2).trans rfl; have hfz5_0 := blk_frozen BK231.out 0; have hfz5_1 := blk_frozen BK231.out 1; have hfz5_2 := blk_frozen BK231.out 2))
    refine bodyPost_ret (results_ct rfl _ _ gb231 65 #[.int .i64 0, .string (⟨#[]⟩ : ByteArray), .string (⟨#[]⟩ : ByteArray)] (0, 0) _ rfl (by (with_reducible repeat (first | refine blk_drewN ?_ _ | refine blk_drew ?_ | refine blk_alloc ?_ _)); refine blk_put (cs := #[.int .i64 0, .string (⟨#[]⟩ : ByteArray), .string (⟨#[]⟩ : ByteArray)]) ?_ 2 _ rfl; (with_reducible repeat (first | refine blk_drewN ?_ _ | refine blk_drew ?_ | refine blk_alloc ?_ _)); refine blk_put (cs := #[.int .i64 0, .string (⟨#[]⟩ : ByteArray), .string (⟨#[]⟩ : ByteArray)]) ?_ 1 _ rfl; (with_reducible repeat (first | refine blk_drewN ?_ _ | refine blk_drew ?_ | refine blk_alloc ?_ _)); refine blk_put (cs := #[.int .i64 0, .string (⟨#[]⟩ : ByteArray), .string (⟨#[]⟩ : ByteArray)]) ?_ 0 _ rfl; (with_reducible repeat (first | refine blk_drewN ?_ _ | refine blk_drew ?_ | refine blk_alloc ?_ _)); exact BK231.out) Try.underlying65 rfl (by kernel_rfl)) rfl ?_
    exact ⟨by first | rfl | (simp [errW_none, errW_some] <;> rfl) | (simp [*, errW_none, errW_some] <;> rfl), by repeat (first | (with_reducible first | exact HB.out | apply below_alloc | apply pw_below_drewN | apply below_drew1 | refine below_set ?_ GE231.out) | exact HB.out)⟩
  · rw [if_neg c3] at H
    have c3b0 : decide ((l0.length : Int) ≤ a1) = false := decide_eq_false c3
    clear c3
    by_cases c6 : 0 ≤ a1
    · rw [if_pos c6] at H
      have c6b0 : decide (0 ≤ a1) = true := decide_eq_true c6
      clear c6
      by_cases c7 : a1 < (l0.length : Int)
      · rw [if_pos c7] at H
        have c7b0 : decide (a1 < (l0.length : Int)) = true := decide_eq_true c7
        clear c7
        replace H := Option.bind_eq_some_iff.mp H
        obtain ⟨⟨t234, t235⟩, A80, H⟩ := H
        replace H : (if t235 ≥ 0 then (moraineref04_op.j0 k l0 t235 ((wrap64 (rd l0 a1)) != 0) (wrap64 (rd l0 a1)) t234 (⟨#[]⟩ : ByteArray)) else (moraineref04_op.j0 k l0 t235 false (wrap64 (rd l0 a1)) t234 (⟨#[]⟩ : ByteArray))) = some (r1, r2, r3, r4) := H
        have A8 := Aside0.mk A80
        clear A80
        have HC9 := Aside0.mk H
        clear H
        go_enter Try.func67, Try.ntmps67
        go_upto_region 5 with (first | ((with_reducible refine gate_dst (N := 4) rfl ?_); refine box_event ?hg (N := 4) ?hd (cs := #[.int .i64 0, .string (⟨#[]⟩ : ByteArray), .string (⟨#[]⟩ : ByteArray)]) (t := 65) ?hr ?_; (case hd => rfl); (case hg => rfl); (case hr => first | (go_simp; done) | (go_simp; rfl)); intro gb231 hg w10 hbox hb; have n0_ := Aside0.mk (below_step (by repeat (first | (with_reducible first | exact HB.out | apply below_alloc | apply pw_below_drewN | apply below_drew1) | exact HB.out)) hb); have n1_ := Aside0.mk (hbox); have n2_ := Aside0.mk ((by rw [hg]; exact (below_size (by repeat (first | (with_reducible first | exact HB.out | apply below_alloc | apply pw_below_drewN | apply below_drew1) | exact HB.out))) : w.heap.size ≤ gb231)); have n3_ := Aside0.mk ((by rw [hg]; exact (below_size (by repeat (first | (with_reducible first | exact HB.out | apply below_alloc | apply pw_below_drewN | apply below_drew1) | exact HB.out))) : w.heap.size ≤ gb231)); clear HB; have HB := n0_; have BK231 := n1_; have GW231 := n2_; have GE231 := n3_; clear n0_ n1_ n2_ n3_; clear hb hbox hg; have p232 : 0 ≤ (a1 : Int) := of_decide_eq_true (by first | (with_reducible assumption) | assumption); have q232 : a1 < (l0.length : Int) := of_decide_eq_true (by first | (with_reducible assumption) | assumption); obtain ⟨ad232, e232, hx232_0⟩ := Kd.at_int HR0.out a1 p232 q232; cases e232; replace hx232_0 := (HB.out.cell (World.block_lt_of_cell? w _ hx232_0)).trans hx232_0; replace p232 := eq_true p232; replace q232 := eq_true q232) | ((with_reducible refine gate_dst (N := 6) rfl ?_); refine box_event ?hg (N := 6) ?hd (cs := #[.int .i64 0, .string (⟨#[]⟩ : ByteArray), .string (⟨#[]⟩ : ByteArray)]) (t := 65) ?hr ?_; (case hd => rfl); (case hg => rfl); (case hr => first | (go_simp; done) | (go_simp; rfl)); intro gb233 hg w11 hbox hb; have n0_ := Aside0.mk (blk_below (g := gb231) (o := .cells #[.int .i64 0, .string (⟨#[]⟩ : ByteArray), .string (⟨#[]⟩ : ByteArray)] 65 (0, 0)) (by (with_reducible repeat (first | refine blk_drewN ?_ _ | refine blk_drew ?_ | refine blk_alloc ?_ _)); exact BK231.out) hb); have n1_ := Aside0.mk (below_step (by repeat (first | (with_reducible first | exact HB.out | apply below_alloc | apply pw_below_drewN | apply below_drew1 | refine below_set ?_ GE231.out) | exact HB.out)) hb); have n2_ := Aside0.mk (hbox); have n3_ := Aside0.mk ((by rw [hg]; exact (below_size (by repeat (first | (with_reducible first | exact HB.out | apply below_alloc | apply pw_below_drewN | apply below_drew1 | refine below_set ?_ GE231.out) | exact HB.out))) : w.heap.size ≤ gb233)); have n4_ := Aside0.mk ((by rw [hg]; exact (below_size (by repeat (first | (with_reducible first | exact HB.out | apply below_alloc | apply pw_below_drewN | apply below_drew1 | refine below_set ?_ GE231.out) | exact HB.out))) : w.heap.size ≤ gb233)); have n5_ := Aside0.mk ((by rw [hg]; exact Nat.ne_of_lt (blk_lt (g := gb231) (o := .cells #[.int .i64 0, .string (⟨#[]⟩ : ByteArray), .string (⟨#[]⟩ : ByteArray)] 65 (0, 0)) (by (with_reducible repeat (first | refine blk_drewN ?_ _ | refine blk_drew ?_ | refine blk_alloc ?_ _)); exact BK231.out)) : gb231 ≠ gb233)); have n6_ := Aside0.mk ((by rw [hg]; exact Nat.ne_of_gt (blk_lt (g := gb231) (o := .cells #[.int .i64 0, .string (⟨#[]⟩ : ByteArray), .string (⟨#[]⟩ : ByteArray)] 65 (0, 0)) (by (with_reducible repeat (first | refine blk_drewN ?_ _ | refine blk_drew ?_ | refine blk_alloc ?_ _)); exact BK231.out)) : gb233 ≠ gb231)); clear BK231; clear HB; have BK231 := n0_; have HB := n1_; have BK233 := n2_; have GW233 := n3_; have GE233 := n4_; have NB231_233 := n5_; have NB233_231 := n6_; clear n0_ n1_ n2_ n3_ n4_ n5_ n6_; clear hb hbox hg; have hnb12 := NB233_231.out; have hnc12 := NB231_233.out; have hcz13_0 : w11.cell? ⟨gb233, 0, none⟩ = some (.int .i64 0) := (blk_cell BK233.out 0).trans rfl; have hcz13_1 : w11.cell? ⟨gb233, 1, none⟩ = some (.string (⟨#[]⟩ : ByteArray)) := (blk_cell BK233.out 1).trans rfl; have hcz13_2 : w11.cell? ⟨gb233, 2, none⟩ = some (.string (⟨#[]⟩ : ByteArray)) := (blk_cell BK233.out 2).trans rfl; have hfz13_0 := blk_frozen BK233.out 0; have hfz13_1 := blk_frozen BK233.out 1; have hfz13_2 := blk_frozen BK233.out 2) | ((with_reducible refine gate_callee (f := 79) rfl ?_); refine goesL_ (some 22) rfl rfl Try.func79 (by kernel_rfl) rfl #[.slice (some ad232) l0.length c0, .int .i64 (wrap64 (a1 + 1)), .int .i64 1024] rfl (by (try simp only [List.map_toArray, List.map_cons, List.map_nil]); first | done | rfl | (simp only [List.length_drop, List.length_take]; rfl)) ?_; (with_reducible refine (moraineref04_read.calls k _ _ l0 (wrap64 (a1 + 1)) 1024 t234 t235 _ ?side1 ?side2 A8.out).mono ?_); (case side1 => exact Kd.C_below HR0.out (by repeat (first | (with_reducible first | exact HB.out | apply below_alloc | apply pw_below_drewN | apply below_drew1 | refine below_set ?_ GE231.out | refine below_set ?_ GE233.out) | exact HB.out))); (case side2 => exact HC0.out); rintro e w' ⟨rfl, ⟨nd, rfl⟩⟩; refine ⟨_, rfl, ?_⟩))
        (try simp only [Act.put, List.setIfInBounds_toArray, List.set_cons_zero, List.set_cons_succ])
        go_cut [32] (fun v32 wc => ∃ (kq : Nat) (x32_8 : Bool), v32 = .bool x32_8 ∧ Aside0 (moraineref04_op.j0 kq l0 t235 x32_8 (wrap64 (rd l0 a1)) t234 (⟨#[]⟩ : ByteArray) = some (r1, r2, r3, r4)) ∧ Aside0 (kq ≤ k) ∧ Aside0 (wc.heap[gb231]? = some (.cells #[.int .i64 0, .string (⟨#[]⟩ : ByteArray), .string (⟨#[]⟩ : ByteArray)] 65 (0, 0))) ∧ Aside0 (wc.heap[gb233]? = some (.cells #[.int .i64 (wrap64 (rd l0 a1)), .string t234, .string (⟨#[]⟩ : ByteArray)] 65 (0, 0))) ∧ Aside0 (Below w.heap.size w wc))
        case first =>
          have H := HC9.out
          clear HC9
          by_cases c14 : t235 ≥ 0
          · rw [if_pos c14] at H
            have c14b0 : decide (0 ≤ t235) = true := decide_eq_true c14
            clear c14
            (first | rw [c14b0] | (simp only [i64_w, i32_w]; rw [c14b0]) | skip)
            have H' := Aside0.mk H
            clear H
            have hnb15 := NB233_231.out
            have hnc15 := NB231_233.out
            have hcz16_0 : w11.cell? ⟨gb233, 0, none⟩ = some (.int .i64 0) := (blk_cell BK233.out 0).trans rfl
            have hcz16_1 : w11.cell? ⟨gb233, 1, none⟩ = some (.string (⟨#[]⟩ : ByteArray)) := (blk_cell BK233.out 1).trans rfl
            have hcz16_2 : w11.cell? ⟨gb233, 2, none⟩ = some (.string (⟨#[]⟩ : ByteArray)) := (blk_cell BK233.out 2).trans rfl
            have hfz16_0 := blk_frozen BK233.out 0
            have hfz16_1 := blk_frozen BK233.out 1
            have hfz16_2 := blk_frozen BK233.out 2
            go_wp2
            go_meet
            case rel => exact ⟨_, (((wrap64 (rd l0 a1)) != 0)), (by first | rfl | (simp; done) | (simp [*]; done)), H', ⟨by first | omega | exact Nat.le_refl _⟩, ⟨by (with_reducible repeat (first | refine blk_drewN ?_ _ | refine blk_drew ?_ | refine blk_alloc ?_ _)); refine blk_far ?_ NB231_233.out _; (with_reducible repeat (first | refine blk_drewN ?_ _ | refine blk_drew ?_ | refine blk_alloc ?_ _)); refine blk_far ?_ NB231_233.out _; (with_reducible repeat (first | refine blk_drewN ?_ _ | refine blk_drew ?_ | refine blk_alloc ?_ _)); refine blk_far ?_ NB231_233.out _; (with_reducible repeat (first | refine blk_drewN ?_ _ | refine blk_drew ?_ | refine blk_alloc ?_ _)); refine blk_far ?_ NB231_233.out _; (with_reducible repeat (first | refine blk_drewN ?_ _ | refine blk_drew ?_ | refine blk_alloc ?_ _)); exact BK231.out⟩, ⟨by (with_reducible repeat (first | refine blk_drewN ?_ _ | refine blk_drew ?_ | refine blk_alloc ?_ _)); refine blk_put (cs := #[.int .i64 (wrap64 (rd l0 a1)), .string (⟨#[]⟩ : ByteArray), .string (⟨#[]⟩ : ByteArray)]) ?_ 1 _ rfl; (with_reducible repeat (first | refine blk_drewN ?_ _ | refine blk_drew ?_ | refine blk_alloc ?_ _)); refine blk_put (cs := #[.int .i64 (wrap64 (rd l0 a1)), .string (⟨#[]⟩ : ByteArray), .string (⟨#[]⟩ : ByteArray)]) ?_ 2 _ rfl; (with_reducible repeat (first | refine blk_drewN ?_ _ | refine blk_drew ?_ | refine blk_alloc ?_ _)); refine blk_put (cs := #[.int .i64 (wrap64 (rd l0 a1)), .string (⟨#[]⟩ : ByteArray), .string (⟨#[]⟩ : ByteArray)]) ?_ 1 _ rfl; (with_reducible repeat (first | refine blk_drewN ?_ _ | refine blk_drew ?_ | refine blk_alloc ?_ _)); refine blk_put (cs := #[.int .i64 0, .string (⟨#[]⟩ : ByteArray), .string (⟨#[]⟩ : ByteArray)]) ?_ 0 _ rfl; (with_reducible repeat (first | refine blk_drewN ?_ _ | refine blk_drew ?_ | refine blk_alloc ?_ _)); exact BK233.out⟩, ⟨by repeat (first | (with_reducible first | exact HB.out | apply below_alloc | apply pw_below_drewN | apply below_drew1 | refine below_set ?_ GE231.out | refine below_set ?_ GE233.out) | exact HB.out)⟩⟩
          · rw [if_neg c14] at H
            have c14b0 : decide (0 ≤ t235) = false := decide_eq_false c14
            clear c14
            (first | rw [c14b0] | (simp only [i64_w, i32_w]; rw [c14b0]) | skip)
            have H' := Aside0.mk H
            clear H
            go_wp2
            go_meet
            case rel => exact ⟨_, (false), (by first | rfl | (simp; done) | (simp [*]; done)), H', ⟨by first | omega | exact Nat.le_refl _⟩, ⟨by (with_reducible repeat (first | refine blk_drewN ?_ _ | refine blk_drew ?_ | refine blk_alloc ?_ _)); refine blk_far ?_ NB231_233.out _; (with_reducible repeat (first | refine blk_drewN ?_ _ | refine blk_drew ?_ | refine blk_alloc ?_ _)); refine blk_far ?_ NB231_233.out _; (with_reducible repeat (first | refine blk_drewN ?_ _ | refine blk_drew ?_ | refine blk_alloc ?_ _)); refine blk_far ?_ NB231_233.out _; (with_reducible repeat (first | refine blk_drewN ?_ _ | refine blk_drew ?_ | refine blk_alloc ?_ _)); refine blk_far ?_ NB231_233.out _; (with_reducible repeat (first | refine blk_drewN ?_ _ | refine blk_drew ?_ | refine blk_alloc ?_ _)); exact BK231.out⟩, ⟨by (with_reducible repeat (first | refine blk_drewN ?_ _ | refine blk_drew ?_ | refine blk_alloc ?_ _)); refine blk_put (cs := #[.int .i64 (wrap64 (rd l0 a1)), .string (⟨#[]⟩ : ByteArray), .string (⟨#[]⟩ : ByteArray)]) ?_ 1 _ rfl; (with_reducible repeat (first | refine blk_drewN ?_ _ | refine blk_drew ?_ | refine blk_alloc ?_ _)); refine blk_put (cs := #[.int .i64 (wrap64 (rd l0 a1)), .string (⟨#[]⟩ : ByteArray), .string (⟨#[]⟩ : ByteArray)]) ?_ 2 _ rfl; (with_reducible repeat (first | refine blk_drewN ?_ _ | refine blk_drew ?_ | refine blk_alloc ?_ _)); refine blk_put (cs := #[.int .i64 (wrap64 (rd l0 a1)), .string (⟨#[]⟩ : ByteArray), .string (⟨#[]⟩ : ByteArray)]) ?_ 1 _ rfl; (with_reducible repeat (first | refine blk_drewN ?_ _ | refine blk_drew ?_ | refine blk_alloc ?_ _)); refine blk_put (cs := #[.int .i64 0, .string (⟨#[]⟩ : ByteArray), .string (⟨#[]⟩ : ByteArray)]) ?_ 0 _ rfl; (with_reducible repeat (first | refine blk_drewN ?_ _ | refine blk_drew ?_ | refine blk_alloc ?_ _)); exact BK233.out⟩, ⟨by repeat (first | (with_reducible first | exact HB.out | apply below_alloc | apply pw_below_drewN | apply below_drew1 | refine below_set ?_ GE231.out | refine below_set ?_ GE233.out) | exact HB.out)⟩⟩
        case rest =>
          clear HC9
          try clear c1
          try clear p2
          try clear q2
          try clear hx2
          try clear c3
          try clear c3b0
          try clear c6
          try clear c6b0
          try clear p6
          try clear c7
          try clear c7b0
          try clear c12
          try clear c14
          try clear c14b0
          try clear c15
          try clear hcz13_0
          try clear hcz13_1
          try clear hcz13_2
          try clear hcz16_0
          try clear hcz16_1
          try clear hcz16_2
          try clear hcz5_0
          try clear hcz5_1
          try clear hcz5_2
          try clear hfz13_0
          try clear hfz13_1
          try clear hfz13_2
          try clear hfz16_0
          try clear hfz16_1
          try clear hfz16_2
          try clear hfz5_0
          try clear hfz5_1
          try clear hfz5_2
          try clear hx232_0
          try clear p232
          try clear q232
          obtain ⟨kq, x32_8, rfl, HA, HJ8, BK231, BK233, HB⟩ := hcut
          cases kq with
          | zero => exact absurd HA.out (by simp [moraineref04_op.j0])
          | succ kj8 =>
            have H := HA.out
            clear HA
            simp only [moraineref04_op.j0] at H
            by_cases c17 : x32_8 = true
            · subst c17
              have H1 : ((moraineref04_read.f kj8 l0 t235 65536).bind fun bt236 => (if bt236.2 < 0 then (some (0, (⟨#[]⟩ : ByteArray), (⟨#[]⟩ : ByteArray), (-1))) else ((moraineref04_May.f kj8 (wrap64 (rd l0 a1)) t234 bt236.1).bind fun t238 => (if t238 = true then (some ((wrap64 (rd l0 a1)), t234, bt236.1, bt236.2)) else (some (0, (⟨#[]⟩ : ByteArray), (⟨#[]⟩ : ByteArray), (-1))))))) = some (r1, r2, r3, r4) := by rw [if_pos rfl] at H; exact H
              clear H
              have H := H1
              clear H1
              replace H := Option.bind_eq_some_iff.mp H
              obtain ⟨⟨t236, t237⟩, A180, H⟩ := H
              replace H : (if t237 < 0 then (some (0, (⟨#[]⟩ : ByteArray), (⟨#[]⟩ : ByteArray), (-1))) else ((moraineref04_May.f kj8 (wrap64 (rd l0 a1)) t234 t236).bind fun t238 => (if t238 = true then (some ((wrap64 (rd l0 a1)), t234, t236, t237)) else (some (0, (⟨#[]⟩ : ByteArray), (⟨#[]⟩ : ByteArray), (-1)))))) = some (r1, r2, r3, r4) := H
              have A18 := Aside0.mk A180
              clear A180
              by_cases c19 : t237 < 0
              · rw [if_pos c19] at H
                have c19b0 : decide (t237 < 0) = true := decide_eq_true c19
                clear c19
                simp only [Option.some.injEq, Prod.mk.injEq] at H
                obtain ⟨rfl, rfl, rfl, rfl⟩ := H
                go_wp2_with (first | ((with_reducible refine gate_callee (f := 79) rfl ?_); refine goesL_ (some 36) rfl rfl Try.func79 (by kernel_rfl) rfl #[.slice (some ad232) l0.length c0, .int .i64 t235, .int .i64 65536] rfl (by (try simp only [List.map_toArray, List.map_cons, List.map_nil]); first | done | rfl | (simp only [List.length_drop, List.length_take]; rfl)) ?_; (with_reducible refine (moraineref04_read.calls kj8 _ _ l0 t235 65536 t236 t237 _ ?side1 ?side2 A18.out).mono ?_); (case side1 => repeat (first | exact (Kd.C_below HR0.out HB.out) | (with_reducible refine Kd.C_alloc ?_ _) | (with_reducible refine Kd.C_drewN ?_ _) | (with_reducible refine Kd.C_drew ?_))); (case side2 => exact HC0.out); rintro e w' ⟨rfl, ⟨nd, rfl⟩⟩; refine ⟨_, rfl, ?_⟩; (try (rw [drewN_self wc]; generalize hq_ : World.drewN wc _ = wc; have n0_ : Aside0 (wc.heap[gb231]? = some (.cells #[.int .i64 0, .string (⟨#[]⟩ : ByteArray), .string (⟨#[]⟩ : ByteArray)] 65 (0, 0))) := ⟨by rw [← hq_]; exact (by (with_reducible repeat (first | refine blk_drewN ?_ _ | refine blk_drew ?_ | refine blk_alloc ?_ _)); exact BK231.out)⟩; have n1_ : Aside0 (wc.heap[gb233]? = some (.cells #[.int .i64 (wrap64 (rd l0 a1)), .string t234, .string (⟨#[]⟩ : ByteArray)] 65 (0, 0))) := ⟨by rw [← hq_]; exact (by (with_reducible repeat (first | refine blk_drewN ?_ _ | refine blk_drew ?_ | refine blk_alloc ?_ _)); exact BK233.out)⟩; have n2_ : Aside0 (Below w.heap.size w wc) := ⟨by rw [← hq_]; exact (by repeat (first | (with_reducible first | exact HB.out | apply below_alloc | apply pw_below_drewN | apply below_drew1 | refine below_set ?_ GE231.out | refine below_set ?_ GE233.out) | exact HB.out))⟩; clear BK231 BK233 HB hq_; have BK231 := n0_; have BK233 := n1_; have HB := n2_; clear n0_ n1_ n2_)); have hnb20 := NB233_231.out; have hnc20 := NB231_233.out; have hcz21_0 : wc.cell? ⟨gb233, 0, none⟩ = some (.int .i64 (wrap64 (rd l0 a1))) := (blk_cell BK233.out 0).trans rfl; have hcz21_1 : wc.cell? ⟨gb233, 1, none⟩ = some (.string t234) := (blk_cell BK233.out 1).trans rfl; have hcz21_2 : wc.cell? ⟨gb233, 2, none⟩ = some (.string (⟨#[]⟩ : ByteArray)) := (blk_cell BK233.out 2).trans rfl; have hfz21_0 := blk_frozen BK233.out 0; have hfz21_1 := blk_frozen BK233.out 1; have hfz21_2 := blk_frozen BK233.out 2; have hcz22_0 : wc.cell? ⟨gb231, 0, none⟩ = some (.int .i64 0) := (blk_cell BK231.out 0).trans rfl; have hcz22_1 : wc.cell? ⟨gb231, 1, none⟩ = some (.string (⟨#[]⟩ : ByteArray)) := (blk_cell BK231.out 1).trans rfl; have hcz22_2 : wc.cell? ⟨gb231, 2, none⟩ = some (.string (⟨#[]⟩ : ByteArray)) := (blk_cell BK231.out 2).trans rfl; have hfz22_0 := blk_frozen BK231.out 0; have hfz22_1 := blk_frozen BK231.out 1; have hfz22_2 := blk_frozen BK231.out 2))
                refine bodyPost_ret (results_ct rfl _ _ gb231 65 #[.int .i64 0, .string (⟨#[]⟩ : ByteArray), .string (⟨#[]⟩ : ByteArray)] (0, 0) _ rfl (by (with_reducible repeat (first | refine blk_drewN ?_ _ | refine blk_drew ?_ | refine blk_alloc ?_ _)); refine blk_put (cs := #[.int .i64 0, .string (⟨#[]⟩ : ByteArray), .string (⟨#[]⟩ : ByteArray)]) ?_ 2 _ rfl; (with_reducible repeat (first | refine blk_drewN ?_ _ | refine blk_drew ?_ | refine blk_alloc ?_ _)); refine blk_put (cs := #[.int .i64 0, .string (⟨#[]⟩ : ByteArray), .string (⟨#[]⟩ : ByteArray)]) ?_ 1 _ rfl; (with_reducible repeat (first | refine blk_drewN ?_ _ | refine blk_drew ?_ | refine blk_alloc ?_ _)); refine blk_put (cs := #[.int .i64 0, .string (⟨#[]⟩ : ByteArray), .string (⟨#[]⟩ : ByteArray)]) ?_ 0 _ rfl; (with_reducible repeat (first | refine blk_drewN ?_ _ | refine blk_drew ?_ | refine blk_alloc ?_ _)); refine blk_far ?_ NB231_233.out _; (with_reducible repeat (first | refine blk_drewN ?_ _ | refine blk_drew ?_ | refine blk_alloc ?_ _)); exact BK231.out) Try.underlying65 rfl (by kernel_rfl)) rfl ?_
                exact ⟨by first | rfl | (simp [errW_none, errW_some] <;> rfl) | (simp [*, errW_none, errW_some] <;> rfl), by repeat (first | (with_reducible first | exact HB.out | apply below_alloc | apply pw_below_drewN | apply below_drew1 | refine below_set ?_ GE231.out | refine below_set ?_ GE233.out) | exact HB.out)⟩
              · rw [if_neg c19] at H
                have c19b0 : decide (t237 < 0) = false := decide_eq_false c19
                clear c19
                replace H := Option.bind_eq_some_iff.mp H
                obtain ⟨t238, A230, H⟩ := H
                replace H : (if t238 = true then (some ((wrap64 (rd l0 a1)), t234, t236, t237)) else (some (0, (⟨#[]⟩ : ByteArray), (⟨#[]⟩ : ByteArray), (-1)))) = some (r1, r2, r3, r4) := H
                have A23 := Aside0.mk A230
                clear A230
                by_cases c24 : t238 = true
                · subst c24
                  have H1 : (some ((wrap64 (rd l0 a1)), t234, t236, t237)) = some (r1, r2, r3, r4) := by rw [if_pos rfl] at H; exact H
                  clear H
                  have H := H1
                  clear H1
                  simp only [Option.some.injEq, Prod.mk.injEq] at H
                  obtain ⟨rfl, rfl, rfl, rfl⟩ := H
                  go_wp2_with (first | ((with_reducible refine gate_callee (f := 79) rfl ?_); refine goesL_ (some 36) rfl rfl Try.func79 (by kernel_rfl) rfl #[.slice (some ad232) l0.length c0, .int .i64 t235, .int .i64 65536] rfl (by (try simp only [List.map_toArray, List.map_cons, List.map_nil]); first | done | rfl | (simp only [List.length_drop, List.length_take]; rfl)) ?_; (with_reducible refine (moraineref04_read.calls kj8 _ _ l0 t235 65536 t236 t237 _ ?side1 ?side2 A18.out).mono ?_); (case side1 => repeat (first | exact (Kd.C_below HR0.out HB.out) | (with_reducible refine Kd.C_alloc ?_ _) | (with_reducible refine Kd.C_drewN ?_ _) | (with_reducible refine Kd.C_drew ?_))); (case side2 => exact HC0.out); rintro e w' ⟨rfl, ⟨nd, rfl⟩⟩; refine ⟨_, rfl, ?_⟩; (try (rw [drewN_self wc]; generalize hq_ : World.drewN wc _ = wc; have n0_ : Aside0 (wc.heap[gb231]? = some (.cells #[.int .i64 0, .string (⟨#[]⟩ : ByteArray), .string (⟨#[]⟩ : ByteArray)] 65 (0, 0))) := ⟨by rw [← hq_]; exact (by (with_reducible repeat (first | refine blk_drewN ?_ _ | refine blk_drew ?_ | refine blk_alloc ?_ _)); exact BK231.out)⟩; have n1_ : Aside0 (wc.heap[gb233]? = some (.cells #[.int .i64 (wrap64 (rd l0 a1)), .string t234, .string (⟨#[]⟩ : ByteArray)] 65 (0, 0))) := ⟨by rw [← hq_]; exact (by (with_reducible repeat (first | refine blk_drewN ?_ _ | refine blk_drew ?_ | refine blk_alloc ?_ _)); exact BK233.out)⟩; have n2_ : Aside0 (Below w.heap.size w wc) := ⟨by rw [← hq_]; exact (by repeat (first | (with_reducible first | exact HB.out | apply below_alloc | apply pw_below_drewN | apply below_drew1 | refine below_set ?_ GE231.out | refine below_set ?_ GE233.out) | exact HB.out))⟩; clear BK231 BK233 HB hq_; have BK231 := n0_; have BK233 := n1_; have HB := n2_; clear n0_ n1_ n2_)); have hnb25 := NB233_231.out; have hnc25 := NB231_233.out; have hcz26_0 : wc.cell? ⟨gb233, 0, none⟩ = some (.int .i64 (wrap64 (rd l0 a1))) := (blk_cell BK233.out 0).trans rfl; have hcz26_1 : wc.cell? ⟨gb233, 1, none⟩ = some (.string t234) := (blk_cell BK233.out 1).trans rfl; have hcz26_2 : wc.cell? ⟨gb233, 2, none⟩ = some (.string (⟨#[]⟩ : ByteArray)) := (blk_cell BK233.out 2).trans rfl; have hfz26_0 := blk_frozen BK233.out 0; have hfz26_1 := blk_frozen BK233.out 1; have hfz26_2 := blk_frozen BK233.out 2) | (go_at_call 51; (with_reducible refine (moraineref04_May.calls kj8 (wrap64 (rd l0 a1)) t234 t236 true _ A23.out).mono ?_); rintro e w27 ⟨rfl, hb⟩; have n0_ := Aside0.mk (blk_below (g := gb231) (o := .cells #[.int .i64 0, .string (⟨#[]⟩ : ByteArray), .string (⟨#[]⟩ : ByteArray)] 65 (0, 0)) (by (with_reducible repeat (first | refine blk_drewN ?_ _ | refine blk_drew ?_ | refine blk_alloc ?_ _)); refine blk_far ?_ NB231_233.out _; (with_reducible repeat (first | refine blk_drewN ?_ _ | refine blk_drew ?_ | refine blk_alloc ?_ _)); exact BK231.out) hb); have n1_ := Aside0.mk (blk_below (g := gb233) (o := .cells #[.int .i64 (wrap64 (rd l0 a1)), .string t234, .string t236] 65 (0, 0)) (by (with_reducible repeat (first | refine blk_drewN ?_ _ | refine blk_drew ?_ | refine blk_alloc ?_ _)); refine blk_put (cs := #[.int .i64 (wrap64 (rd l0 a1)), .string t234, .string (⟨#[]⟩ : ByteArray)]) ?_ 2 _ rfl; (with_reducible repeat (first | refine blk_drewN ?_ _ | refine blk_drew ?_ | refine blk_alloc ?_ _)); exact BK233.out) hb); have n2_ := Aside0.mk (below_step (by repeat (first | (with_reducible first | exact HB.out | apply below_alloc | apply pw_below_drewN | apply below_drew1 | refine below_set ?_ GE231.out | refine below_set ?_ GE233.out) | exact HB.out)) hb); clear BK231; clear BK233; clear HB; have BK231 := n0_; have BK233 := n1_; have HB := n2_; clear n0_ n1_ n2_; (try clear hb); (try clear hb2); (try clear hk); (try clear hi); have hcz28_0 : w27.cell? ⟨gb233, 0, none⟩ = some (.int .i64 (wrap64 (rd l0 a1))) := (blk_cell BK233.out 0).trans rfl; have hcz28_1 : w27.cell? ⟨gb233, 1, none⟩ = some (.string t234) := (blk_cell BK233.out 1).trans rfl; have hcz28_2 : w27.cell? ⟨gb233, 2, none⟩ = some (.string t236) := (blk_cell BK233.out 2).trans rfl; have hfz28_0 := blk_frozen BK233.out 0; have hfz28_1 := blk_frozen BK233.out 1; have hfz28_2 := blk_frozen BK233.out 2; have hcz29_0 : w27.cell? ⟨gb231, 0, none⟩ = some (.int .i64 0) := (blk_cell BK231.out 0).trans rfl; have hcz29_1 : w27.cell? ⟨gb231, 1, none⟩ = some (.string (⟨#[]⟩ : ByteArray)) := (blk_cell BK231.out 1).trans rfl; have hcz29_2 : w27.cell? ⟨gb231, 2, none⟩ = some (.string (⟨#[]⟩ : ByteArray)) := (blk_cell BK231.out 2).trans rfl; have hfz29_0 := blk_frozen BK231.out 0; have hfz29_1 := blk_frozen BK231.out 1; have hfz29_2 := blk_frozen BK231.out 2))
                  refine bodyPost_ret (results_ct rfl _ _ gb231 65 #[.int .i64 (wrap64 (rd l0 a1)), .string t234, .string t236] (0, 0) _ rfl (by (with_reducible repeat (first | refine blk_drewN ?_ _ | refine blk_drew ?_ | refine blk_alloc ?_ _)); refine blk_put (cs := #[.int .i64 (wrap64 (rd l0 a1)), .string t234, .string (⟨#[]⟩ : ByteArray)]) ?_ 2 _ rfl; (with_reducible repeat (first | refine blk_drewN ?_ _ | refine blk_drew ?_ | refine blk_alloc ?_ _)); refine blk_put (cs := #[.int .i64 (wrap64 (rd l0 a1)), .string (⟨#[]⟩ : ByteArray), .string (⟨#[]⟩ : ByteArray)]) ?_ 1 _ rfl; (with_reducible repeat (first | refine blk_drewN ?_ _ | refine blk_drew ?_ | refine blk_alloc ?_ _)); refine blk_put (cs := #[.int .i64 0, .string (⟨#[]⟩ : ByteArray), .string (⟨#[]⟩ : ByteArray)]) ?_ 0 _ rfl; (with_reducible repeat (first | refine blk_drewN ?_ _ | refine blk_drew ?_ | refine blk_alloc ?_ _)); exact BK231.out) Try.underlying65 rfl (by kernel_rfl)) rfl ?_
                  exact ⟨by first | rfl | (simp [errW_none, errW_some] <;> rfl) | (simp [*, errW_none, errW_some] <;> rfl), by repeat (first | (with_reducible first | exact HB.out | apply below_alloc | apply pw_below_drewN | apply below_drew1 | refine below_set ?_ GE231.out | refine below_set ?_ GE233.out) | exact HB.out)⟩
                · replace c24 := Bool.eq_false_iff.mpr c24
                  subst c24
                  have H1 : (some (0, (⟨#[]⟩ : ByteArray), (⟨#[]⟩ : ByteArray), (-1))) = some (r1, r2, r3, r4) := by rw [if_neg (show ¬ (false = true) by decide)] at H; exact H
                  clear H
                  have H := H1
                  clear H1
                  simp only [Option.some.injEq, Prod.mk.injEq] at H
                  obtain ⟨rfl, rfl, rfl, rfl⟩ := H
                  go_wp2_with (first | ((with_reducible refine gate_callee (f := 79) rfl ?_); refine goesL_ (some 36) rfl rfl Try.func79 (by kernel_rfl) rfl #[.slice (some ad232) l0.length c0, .int .i64 t235, .int .i64 65536] rfl (by (try simp only [List.map_toArray, List.map_cons, List.map_nil]); first | done | rfl | (simp only [List.length_drop, List.length_take]; rfl)) ?_; (with_reducible refine (moraineref04_read.calls kj8 _ _ l0 t235 65536 t236 t237 _ ?side1 ?side2 A18.out).mono ?_); (case side1 => repeat (first | exact (Kd.C_below HR0.out HB.out) | (with_reducible refine Kd.C_alloc ?_ _) | (with_reducible refine Kd.C_drewN ?_ _) | (with_reducible refine Kd.C_drew ?_))); (case side2 => exact HC0.out); rintro e w' ⟨rfl, ⟨nd, rfl⟩⟩; refine ⟨_, rfl, ?_⟩; (try (rw [drewN_self wc]; generalize hq_ : World.drewN wc _ = wc; have n0_ : Aside0 (wc.heap[gb231]? = some (.cells #[.int .i64 0, .string (⟨#[]⟩ : ByteArray), .string (⟨#[]⟩ : ByteArray)] 65 (0, 0))) := ⟨by rw [← hq_]; exact (by (with_reducible repeat (first | refine blk_drewN ?_ _ | refine blk_drew ?_ | refine blk_alloc ?_ _)); exact BK231.out)⟩; have n1_ : Aside0 (wc.heap[gb233]? = some (.cells #[.int .i64 (wrap64 (rd l0 a1)), .string t234, .string (⟨#[]⟩ : ByteArray)] 65 (0, 0))) := ⟨by rw [← hq_]; exact (by (with_reducible repeat (first | refine blk_drewN ?_ _ | refine blk_drew ?_ | refine blk_alloc ?_ _)); exact BK233.out)⟩; have n2_ : Aside0 (Below w.heap.size w wc) := ⟨by rw [← hq_]; exact (by repeat (first | (with_reducible first | exact HB.out | apply below_alloc | apply pw_below_drewN | apply below_drew1 | refine below_set ?_ GE231.out | refine below_set ?_ GE233.out) | exact HB.out))⟩; clear BK231 BK233 HB hq_; have BK231 := n0_; have BK233 := n1_; have HB := n2_; clear n0_ n1_ n2_)); have hnb30 := NB233_231.out; have hnc30 := NB231_233.out; have hcz31_0 : wc.cell? ⟨gb233, 0, none⟩ = some (.int .i64 (wrap64 (rd l0 a1))) := (blk_cell BK233.out 0).trans rfl; have hcz31_1 : wc.cell? ⟨gb233, 1, none⟩ = some (.string t234) := (blk_cell BK233.out 1).trans rfl; have hcz31_2 : wc.cell? ⟨gb233, 2, none⟩ = some (.string (⟨#[]⟩ : ByteArray)) := (blk_cell BK233.out 2).trans rfl; have hfz31_0 := blk_frozen BK233.out 0; have hfz31_1 := blk_frozen BK233.out 1; have hfz31_2 := blk_frozen BK233.out 2) | (go_at_call 51; (with_reducible refine (moraineref04_May.calls kj8 (wrap64 (rd l0 a1)) t234 t236 false _ A23.out).mono ?_); rintro e w32 ⟨rfl, hb⟩; have n0_ := Aside0.mk (blk_below (g := gb231) (o := .cells #[.int .i64 0, .string (⟨#[]⟩ : ByteArray), .string (⟨#[]⟩ : ByteArray)] 65 (0, 0)) (by (with_reducible repeat (first | refine blk_drewN ?_ _ | refine blk_drew ?_ | refine blk_alloc ?_ _)); refine blk_far ?_ NB231_233.out _; (with_reducible repeat (first | refine blk_drewN ?_ _ | refine blk_drew ?_ | refine blk_alloc ?_ _)); exact BK231.out) hb); have n1_ := Aside0.mk (blk_below (g := gb233) (o := .cells #[.int .i64 (wrap64 (rd l0 a1)), .string t234, .string t236] 65 (0, 0)) (by (with_reducible repeat (first | refine blk_drewN ?_ _ | refine blk_drew ?_ | refine blk_alloc ?_ _)); refine blk_put (cs := #[.int .i64 (wrap64 (rd l0 a1)), .string t234, .string (⟨#[]⟩ : ByteArray)]) ?_ 2 _ rfl; (with_reducible repeat (first | refine blk_drewN ?_ _ | refine blk_drew ?_ | refine blk_alloc ?_ _)); exact BK233.out) hb); have n2_ := Aside0.mk (below_step (by repeat (first | (with_reducible first | exact HB.out | apply below_alloc | apply pw_below_drewN | apply below_drew1 | refine below_set ?_ GE231.out | refine below_set ?_ GE233.out) | exact HB.out)) hb); clear BK231; clear BK233; clear HB; have BK231 := n0_; have BK233 := n1_; have HB := n2_; clear n0_ n1_ n2_; (try clear hb); (try clear hb2); (try clear hk); (try clear hi); have hcz33_0 : w32.cell? ⟨gb231, 0, none⟩ = some (.int .i64 0) := (blk_cell BK231.out 0).trans rfl; have hcz33_1 : w32.cell? ⟨gb231, 1, none⟩ = some (.string (⟨#[]⟩ : ByteArray)) := (blk_cell BK231.out 1).trans rfl; have hcz33_2 : w32.cell? ⟨gb231, 2, none⟩ = some (.string (⟨#[]⟩ : ByteArray)) := (blk_cell BK231.out 2).trans rfl; have hfz33_0 := blk_frozen BK231.out 0; have hfz33_1 := blk_frozen BK231.out 1; have hfz33_2 := blk_frozen BK231.out 2))
                  refine bodyPost_ret (results_ct rfl _ _ gb231 65 #[.int .i64 0, .string (⟨#[]⟩ : ByteArray), .string (⟨#[]⟩ : ByteArray)] (0, 0) _ rfl (by (with_reducible repeat (first | refine blk_drewN ?_ _ | refine blk_drew ?_ | refine blk_alloc ?_ _)); refine blk_put (cs := #[.int .i64 0, .string (⟨#[]⟩ : ByteArray), .string (⟨#[]⟩ : ByteArray)]) ?_ 2 _ rfl; (with_reducible repeat (first | refine blk_drewN ?_ _ | refine blk_drew ?_ | refine blk_alloc ?_ _)); refine blk_put (cs := #[.int .i64 0, .string (⟨#[]⟩ : ByteArray), .string (⟨#[]⟩ : ByteArray)]) ?_ 1 _ rfl; (with_reducible repeat (first | refine blk_drewN ?_ _ | refine blk_drew ?_ | refine blk_alloc ?_ _)); refine blk_put (cs := #[.int .i64 0, .string (⟨#[]⟩ : ByteArray), .string (⟨#[]⟩ : ByteArray)]) ?_ 0 _ rfl; (with_reducible repeat (first | refine blk_drewN ?_ _ | refine blk_drew ?_ | refine blk_alloc ?_ _)); exact BK231.out) Try.underlying65 rfl (by kernel_rfl)) rfl ?_
                  exact ⟨by first | rfl | (simp [errW_none, errW_some] <;> rfl) | (simp [*, errW_none, errW_some] <;> rfl), by repeat (first | (with_reducible first | exact HB.out | apply below_alloc | apply pw_below_drewN | apply below_drew1 | refine below_set ?_ GE231.out | refine below_set ?_ GE233.out) | exact HB.out)⟩
            · replace c17 := Bool.eq_false_iff.mpr c17
              subst c17
              have H1 : (if t235 < 0 then (some (0, (⟨#[]⟩ : ByteArray), (⟨#[]⟩ : ByteArray), (-1))) else ((moraineref04_May.f kj8 (wrap64 (rd l0 a1)) t234 (⟨#[]⟩ : ByteArray)).bind fun t239 => (if t239 = true then (some ((wrap64 (rd l0 a1)), t234, (⟨#[]⟩ : ByteArray), t235)) else (some (0, (⟨#[]⟩ : ByteArray), (⟨#[]⟩ : ByteArray), (-1)))))) = some (r1, r2, r3, r4) := by rw [if_neg (show ¬ (false = true) by decide)] at H; exact H
              clear H
              have H := H1
              clear H1
              by_cases c34 : t235 < 0
              · rw [if_pos c34] at H
                have c34b0 : decide (t235 < 0) = true := decide_eq_true c34
                clear c34
                simp only [Option.some.injEq, Prod.mk.injEq] at H
                obtain ⟨rfl, rfl, rfl, rfl⟩ := H
                have hnb35 := NB231_233.out
                have hnc35 := NB233_231.out
                have hcz36_0 : wc.cell? ⟨gb231, 0, none⟩ = some (.int .i64 0) := (blk_cell BK231.out 0).trans rfl
                have hcz36_1 : wc.cell? ⟨gb231, 1, none⟩ = some (.string (⟨#[]⟩ : ByteArray)) := (blk_cell BK231.out 1).trans rfl
                have hcz36_2 : wc.cell? ⟨gb231, 2, none⟩ = some (.string (⟨#[]⟩ : ByteArray)) := (blk_cell BK231.out 2).trans rfl
                have hfz36_0 := blk_frozen BK231.out 0
                have hfz36_1 := blk_frozen BK231.out 1
                have hfz36_2 := blk_frozen BK231.out 2
                go_wp2
                refine bodyPost_ret (results_ct rfl _ _ gb231 65 #[.int .i64 0, .string (⟨#[]⟩ : ByteArray), .string (⟨#[]⟩ : ByteArray)] (0, 0) _ rfl (by (with_reducible repeat (first | refine blk_drewN ?_ _ | refine blk_drew ?_ | refine blk_alloc ?_ _)); refine blk_put (cs := #[.int .i64 0, .string (⟨#[]⟩ : ByteArray), .string (⟨#[]⟩ : ByteArray)]) ?_ 2 _ rfl; (with_reducible repeat (first | refine blk_drewN ?_ _ | refine blk_drew ?_ | refine blk_alloc ?_ _)); refine blk_put (cs := #[.int .i64 0, .string (⟨#[]⟩ : ByteArray), .string (⟨#[]⟩ : ByteArray)]) ?_ 1 _ rfl; (with_reducible repeat (first | refine blk_drewN ?_ _ | refine blk_drew ?_ | refine blk_alloc ?_ _)); refine blk_put (cs := #[.int .i64 0, .string (⟨#[]⟩ : ByteArray), .string (⟨#[]⟩ : ByteArray)]) ?_ 0 _ rfl; (with_reducible repeat (first | refine blk_drewN ?_ _ | refine blk_drew ?_ | refine blk_alloc ?_ _)); exact BK231.out) Try.underlying65 rfl (by kernel_rfl)) rfl ?_
                exact ⟨by first | rfl | (simp [errW_none, errW_some] <;> rfl) | (simp [*, errW_none, errW_some] <;> rfl), by repeat (first | (with_reducible first | exact HB.out | apply below_alloc | apply pw_below_drewN | apply below_drew1 | refine below_set ?_ GE231.out | refine below_set ?_ GE233.out) | exact HB.out)⟩
              · rw [if_neg c34] at H
                have c34b0 : decide (t235 < 0) = false := decide_eq_false c34
                clear c34
                replace H := Option.bind_eq_some_iff.mp H
                obtain ⟨t239, A370, H⟩ := H
                replace H : (if t239 = true then (some ((wrap64 (rd l0 a1)), t234, (⟨#[]⟩ : ByteArray), t235)) else (some (0, (⟨#[]⟩ : ByteArray), (⟨#[]⟩ : ByteArray), (-1)))) = some (r1, r2, r3, r4) := H
                have A37 := Aside0.mk A370
                clear A370
                by_cases c38 : t239 = true
                · subst c38
                  have H1 : (some ((wrap64 (rd l0 a1)), t234, (⟨#[]⟩ : ByteArray), t235)) = some (r1, r2, r3, r4) := by rw [if_pos rfl] at H; exact H
                  clear H
                  have H := H1
                  clear H1
                  simp only [Option.some.injEq, Prod.mk.injEq] at H
                  obtain ⟨rfl, rfl, rfl, rfl⟩ := H
                  have hnb39 := NB233_231.out
                  have hnc39 := NB231_233.out
                  have hcz40_0 : wc.cell? ⟨gb233, 0, none⟩ = some (.int .i64 (wrap64 (rd l0 a1))) := (blk_cell BK233.out 0).trans rfl
                  have hcz40_1 : wc.cell? ⟨gb233, 1, none⟩ = some (.string t234) := (blk_cell BK233.out 1).trans rfl
                  have hcz40_2 : wc.cell? ⟨gb233, 2, none⟩ = some (.string (⟨#[]⟩ : ByteArray)) := (blk_cell BK233.out 2).trans rfl
                  have hfz40_0 := blk_frozen BK233.out 0
                  have hfz40_1 := blk_frozen BK233.out 1
                  have hfz40_2 := blk_frozen BK233.out 2
                  go_wp2_with (first | (go_at_call 51; (with_reducible refine (moraineref04_May.calls kj8 (wrap64 (rd l0 a1)) t234 (⟨#[]⟩ : ByteArray) true _ A37.out).mono ?_); rintro e w41 ⟨rfl, hb⟩; have n0_ := Aside0.mk (blk_below (g := gb231) (o := .cells #[.int .i64 0, .string (⟨#[]⟩ : ByteArray), .string (⟨#[]⟩ : ByteArray)] 65 (0, 0)) (by (with_reducible repeat (first | refine blk_drewN ?_ _ | refine blk_drew ?_ | refine blk_alloc ?_ _)); exact BK231.out) hb); have n1_ := Aside0.mk (blk_below (g := gb233) (o := .cells #[.int .i64 (wrap64 (rd l0 a1)), .string t234, .string (⟨#[]⟩ : ByteArray)] 65 (0, 0)) (by (with_reducible repeat (first | refine blk_drewN ?_ _ | refine blk_drew ?_ | refine blk_alloc ?_ _)); exact BK233.out) hb); have n2_ := Aside0.mk (below_step (by repeat (first | (with_reducible first | exact HB.out | apply below_alloc | apply pw_below_drewN | apply below_drew1 | refine below_set ?_ GE231.out | refine below_set ?_ GE233.out) | exact HB.out)) hb); clear BK231; clear BK233; clear HB; have BK231 := n0_; have BK233 := n1_; have HB := n2_; clear n0_ n1_ n2_; (try clear hb); (try clear hb2); (try clear hk); (try clear hi); have hcz42_0 : w41.cell? ⟨gb233, 0, none⟩ = some (.int .i64 (wrap64 (rd l0 a1))) := (blk_cell BK233.out 0).trans rfl; have hcz42_1 : w41.cell? ⟨gb233, 1, none⟩ = some (.string t234) := (blk_cell BK233.out 1).trans rfl; have hcz42_2 : w41.cell? ⟨gb233, 2, none⟩ = some (.string (⟨#[]⟩ : ByteArray)) := (blk_cell BK233.out 2).trans rfl; have hfz42_0 := blk_frozen BK233.out 0; have hfz42_1 := blk_frozen BK233.out 1; have hfz42_2 := blk_frozen BK233.out 2; have hcz43_0 : w41.cell? ⟨gb231, 0, none⟩ = some (.int .i64 0) := (blk_cell BK231.out 0).trans rfl; have hcz43_1 : w41.cell? ⟨gb231, 1, none⟩ = some (.string (⟨#[]⟩ : ByteArray)) := (blk_cell BK231.out 1).trans rfl; have hcz43_2 : w41.cell? ⟨gb231, 2, none⟩ = some (.string (⟨#[]⟩ : ByteArray)) := (blk_cell BK231.out 2).trans rfl; have hfz43_0 := blk_frozen BK231.out 0; have hfz43_1 := blk_frozen BK231.out 1; have hfz43_2 := blk_frozen BK231.out 2))
                  refine bodyPost_ret (results_ct rfl _ _ gb231 65 #[.int .i64 (wrap64 (rd l0 a1)), .string t234, .string (⟨#[]⟩ : ByteArray)] (0, 0) _ rfl (by (with_reducible repeat (first | refine blk_drewN ?_ _ | refine blk_drew ?_ | refine blk_alloc ?_ _)); refine blk_put (cs := #[.int .i64 (wrap64 (rd l0 a1)), .string t234, .string (⟨#[]⟩ : ByteArray)]) ?_ 2 _ rfl; (with_reducible repeat (first | refine blk_drewN ?_ _ | refine blk_drew ?_ | refine blk_alloc ?_ _)); refine blk_put (cs := #[.int .i64 (wrap64 (rd l0 a1)), .string (⟨#[]⟩ : ByteArray), .string (⟨#[]⟩ : ByteArray)]) ?_ 1 _ rfl; (with_reducible repeat (first | refine blk_drewN ?_ _ | refine blk_drew ?_ | refine blk_alloc ?_ _)); refine blk_put (cs := #[.int .i64 0, .string (⟨#[]⟩ : ByteArray), .string (⟨#[]⟩ : ByteArray)]) ?_ 0 _ rfl; (with_reducible repeat (first | refine blk_drewN ?_ _ | refine blk_drew ?_ | refine blk_alloc ?_ _)); exact BK231.out) Try.underlying65 rfl (by kernel_rfl)) rfl ?_
                  exact ⟨by first | rfl | (simp [errW_none, errW_some] <;> rfl) | (simp [*, errW_none, errW_some] <;> rfl), by repeat (first | (with_reducible first | exact HB.out | apply below_alloc | apply pw_below_drewN | apply below_drew1 | refine below_set ?_ GE231.out | refine below_set ?_ GE233.out) | exact HB.out)⟩
                · replace c38 := Bool.eq_false_iff.mpr c38
                  subst c38
                  have H1 : (some (0, (⟨#[]⟩ : ByteArray), (⟨#[]⟩ : ByteArray), (-1))) = some (r1, r2, r3, r4) := by rw [if_neg (show ¬ (false = true) by decide)] at H; exact H
                  clear H
                  have H := H1
                  clear H1
                  simp only [Option.some.injEq, Prod.mk.injEq] at H
                  obtain ⟨rfl, rfl, rfl, rfl⟩ := H
                  have hnb44 := NB233_231.out
                  have hnc44 := NB231_233.out
                  have hcz45_0 : wc.cell? ⟨gb233, 0, none⟩ = some (.int .i64 (wrap64 (rd l0 a1))) := (blk_cell BK233.out 0).trans rfl
                  have hcz45_1 : wc.cell? ⟨gb233, 1, none⟩ = some (.string t234) := (blk_cell BK233.out 1).trans rfl
                  have hcz45_2 : wc.cell? ⟨gb233, 2, none⟩ = some (.string (⟨#[]⟩ : ByteArray)) := (blk_cell BK233.out 2).trans rfl
                  have hfz45_0 := blk_frozen BK233.out 0
                  have hfz45_1 := blk_frozen BK233.out 1
                  have hfz45_2 := blk_frozen BK233.out 2
                  go_wp2_with (first | (go_at_call 51; (with_reducible refine (moraineref04_May.calls kj8 (wrap64 (rd l0 a1)) t234 (⟨#[]⟩ : ByteArray) false _ A37.out).mono ?_); rintro e w46 ⟨rfl, hb⟩; have n0_ := Aside0.mk (blk_below (g := gb231) (o := .cells #[.int .i64 0, .string (⟨#[]⟩ : ByteArray), .string (⟨#[]⟩ : ByteArray)] 65 (0, 0)) (by (with_reducible repeat (first | refine blk_drewN ?_ _ | refine blk_drew ?_ | refine blk_alloc ?_ _)); exact BK231.out) hb); have n1_ := Aside0.mk (blk_below (g := gb233) (o := .cells #[.int .i64 (wrap64 (rd l0 a1)), .string t234, .string (⟨#[]⟩ : ByteArray)] 65 (0, 0)) (by (with_reducible repeat (first | refine blk_drewN ?_ _ | refine blk_drew ?_ | refine blk_alloc ?_ _)); exact BK233.out) hb); have n2_ := Aside0.mk (below_step (by repeat (first | (with_reducible first | exact HB.out | apply below_alloc | apply pw_below_drewN | apply below_drew1 | refine below_set ?_ GE231.out | refine below_set ?_ GE233.out) | exact HB.out)) hb); clear BK231; clear BK233; clear HB; have BK231 := n0_; have BK233 := n1_; have HB := n2_; clear n0_ n1_ n2_; (try clear hb); (try clear hb2); (try clear hk); (try clear hi); have hcz47_0 : w46.cell? ⟨gb231, 0, none⟩ = some (.int .i64 0) := (blk_cell BK231.out 0).trans rfl; have hcz47_1 : w46.cell? ⟨gb231, 1, none⟩ = some (.string (⟨#[]⟩ : ByteArray)) := (blk_cell BK231.out 1).trans rfl; have hcz47_2 : w46.cell? ⟨gb231, 2, none⟩ = some (.string (⟨#[]⟩ : ByteArray)) := (blk_cell BK231.out 2).trans rfl; have hfz47_0 := blk_frozen BK231.out 0; have hfz47_1 := blk_frozen BK231.out 1; have hfz47_2 := blk_frozen BK231.out 2))
                  refine bodyPost_ret (results_ct rfl _ _ gb231 65 #[.int .i64 0, .string (⟨#[]⟩ : ByteArray), .string (⟨#[]⟩ : ByteArray)] (0, 0) _ rfl (by (with_reducible repeat (first | refine blk_drewN ?_ _ | refine blk_drew ?_ | refine blk_alloc ?_ _)); refine blk_put (cs := #[.int .i64 0, .string (⟨#[]⟩ : ByteArray), .string (⟨#[]⟩ : ByteArray)]) ?_ 2 _ rfl; (with_reducible repeat (first | refine blk_drewN ?_ _ | refine blk_drew ?_ | refine blk_alloc ?_ _)); refine blk_put (cs := #[.int .i64 0, .string (⟨#[]⟩ : ByteArray), .string (⟨#[]⟩ : ByteArray)]) ?_ 1 _ rfl; (with_reducible repeat (first | refine blk_drewN ?_ _ | refine blk_drew ?_ | refine blk_alloc ?_ _)); refine blk_put (cs := #[.int .i64 0, .string (⟨#[]⟩ : ByteArray), .string (⟨#[]⟩ : ByteArray)]) ?_ 0 _ rfl; (with_reducible repeat (first | refine blk_drewN ?_ _ | refine blk_drew ?_ | refine blk_alloc ?_ _)); exact BK231.out) Try.underlying65 rfl (by kernel_rfl)) rfl ?_
                  exact ⟨by first | rfl | (simp [errW_none, errW_some] <;> rfl) | (simp [*, errW_none, errW_some] <;> rfl), by repeat (first | (with_reducible first | exact HB.out | apply below_alloc | apply pw_below_drewN | apply below_drew1 | refine below_set ?_ GE231.out | refine below_set ?_ GE233.out) | exact HB.out)⟩
      · rw [if_neg c7] at H
        exact absurd H (by simp)
    · rw [if_neg c6] at H
      exact absurd H (by simp)

end Go.Proofs.Ythkooncibfkepaa.G

/- Printed by the session's program over the kit's print, out of the translation: functions as plain Lean functions, and the proofs that the calls come to them. -/
namespace Go.Proofs.Ythkooncibfkepaa.G
open Go.RowKit Go.Proofs.YthkooncibfkepaaW.PrintWords Go.Proofs.YthkooncibfkepaaW.PrintLast Go.Proofs.YthkooncibfkepaaW.PrintMore
attribute [local go_sem] max2_int min2_int max_two min_two max_three min_three max_four min_four   -- for this text's walks alone
set_option linter.unusedVariables false
set_option linter.unusedSimpArgs false

/-! ### moraineref04_Walked: function 40 -/
def moraineref04_Walked.l0 : Nat → List Int → Int → Int → Int → List (S65) → Option (Int × (List (S65)) × Int)
  | 0, _, _, _, _, _ => none
  | k + 1, x0, x5, x6, x7, x8 => if (x8.length : Int) < x6 then ((moraineref04_op.f k x0 x7).bind fun bt242 => (if bt242.2.2.2 < 0 then (some (x5, x8, x7)) else (if x8.length < 3518437208883 then (moraineref04_Walked.l0 k x0 x5 x6 bt242.2.2.2 (x8 ++ [(⟨bt242.1, bt242.2.1, bt242.2.2.1⟩ : S65)])) else (none)))) else (some (x5, x8, x7))
def moraineref04_Walked.f (k : Nat) (l0 : List Int) : Option (Int × (List (S65)) × Int) := if (l0.length : Int) < 12 then (some (0, ([] : List (S65)), 0)) else ((moraineref04_number.f k l0 0 8).bind fun t240 => ((moraineref04_number.f k l0 8 4).bind fun t241 => (moraineref04_Walked.l0 k l0 t240 (wrap64 (t241)) 12 ([] : List (S65)))))
theorem moraineref04_Walked.mono_l : ∀ k, (∀ y0 y1 y2 y3 y4, LeO (moraineref04_Walked.l0 k y0 y1 y2 y3 y4) (moraineref04_Walked.l0 (k + 1) y0 y1 y2 y3 y4))
  | 0 => fun _ _ _ _ _ r h => by simp [moraineref04_Walked.l0] at h
  | k + 1 => by
    have ih0 := moraineref04_Walked.mono_l k
    · intro y0 y1 y2 y3 y4
      unfold moraineref04_Walked.l0
      repeat' first
      | (with_reducible exact ih0 _ _ _ _ _)
      | (with_reducible exact moraineref04_number.mono _ _ _ _)
      | (with_reducible exact moraineref04_op.mono _ _ _)
      | (with_reducible exact LeO.refl _)
      | (with_reducible exact LeO.none _)
      | (with_reducible refine LeO.ite ?_ ?_)
      | (with_reducible refine LeO.bind ?_ (fun _ => ?_))
      | exact ih0 _ _ _ _ _
      | exact moraineref04_number.mono _ _ _ _
      | exact moraineref04_op.mono _ _ _
      | exact LeO.none _
      | refine LeO.ite ?_ ?_
      | refine LeO.bind ?_ (fun _ => ?_)
theorem moraineref04_Walked.mono : ∀ a0 k, LeO (moraineref04_Walked.f k a0) (moraineref04_Walked.f (k + 1) a0) := by
  intro a0 k
  have ih0 := moraineref04_Walked.mono_l k
  unfold moraineref04_Walked.f
  repeat' first
      | (with_reducible exact ih0 _ _ _ _ _)
      | (with_reducible exact moraineref04_number.mono _ _ _ _)
      | (with_reducible exact moraineref04_op.mono _ _ _)
      | (with_reducible exact LeO.refl _)
      | (with_reducible exact LeO.none _)
      | (with_reducible refine LeO.ite ?_ ?_)
      | (with_reducible refine LeO.bind ?_ (fun _ => ?_))
      | exact ih0 _ _ _ _ _
      | exact moraineref04_number.mono _ _ _ _
      | exact moraineref04_op.mono _ _ _
      | exact LeO.none _
      | refine LeO.ite ?_ ?_
      | refine LeO.bind ?_ (fun _ => ?_)
set_option maxHeartbeats 8000000 in
set_option maxRecDepth 100000 in
theorem moraineref04_Walked.calls (k : Nat) (A0 : Option Addr) (c0 : Nat) (l0 : List Int) (r1 : Int) (r2 : List (S65)) (r3 : Int) (w : World) (hr0 : Kd.C (Kd.int .u8) w A0 l0.length l0) (hc0 : l0.length ≤ c0) (h : moraineref04_Walked.f k l0 = some (r1, r2, r3)) :
    Calls Try.prog 40 #[.slice A0 l0.length c0] w fun e w' => ∃ v1_ : Value, e = .returned (.tuple #[.int .u64 r1, v1_, .int .i64 r3]) ∧ Kd.R k65 65 w' w.heap.size (fun _ => True) v1_ r2 ∧ Below w.heap.size w w' := by
  have hu65 := Try.underlying65
  have HR0 := Aside0.mk hr0
  have HC0 := Aside0.mk hc0
  clear hr0 hc0
  have HB := Aside0.mk (Below.refl w.heap.size w)
  have H : (if (l0.length : Int) < 12 then (some (0, ([] : List (S65)), 0)) else ((moraineref04_number.f k l0 0 8).bind fun t240 => ((moraineref04_number.f k l0 8 4).bind fun t241 => (moraineref04_Walked.l0 k l0 t240 (wrap64 (t241)) 12 ([] : List (S65)))))) = some (r1, r2, r3) := h
  clear h
  by_cases c2 : (l0.length : Int) < 12
  · rw [if_pos c2] at H
    have c2b0 : decide ((l0.length : Int) < 12) = true := decide_eq_true c2
    have c2b1 : decide (l0.length < 12) = true := decide_eq_true (by omega)
    clear c2
    simp only [Option.some.injEq, Prod.mk.injEq] at H
    obtain ⟨rfl, rfl, rfl⟩ := H
    go_enter Try.func40, Try.ntmps40
    go_wp2
    go_ret3
    exact ⟨_, by first | rfl | (simp [errW_none, errW_some] <;> rfl) | (simp [*, errW_none, errW_some] <;> rfl), by first | exact Kd.R_nil _ _ _ _ _ | exact Kd.N_nil _ _ _ _ _ | exact Kd.V_nil _ _ _ _ _ | exact Kd.Q_nil _ _ _ _ _ | exact Kd.S_nil _ _ _ _ _, by repeat (first | (with_reducible first | exact HB.out | apply below_alloc | apply pw_below_drewN | apply below_drew1) | exact HB.out)⟩
  · rw [if_neg c2] at H
    have c2b0 : decide ((l0.length : Int) < 12) = false := decide_eq_false c2
    have c2b1 : decide (l0.length < 12) = false := decide_eq_false (by omega)
    clear c2
    replace H := Option.bind_eq_some_iff.mp H
    obtain ⟨t240, A30, H⟩ := H
    replace H : ((moraineref04_number.f k l0 8 4).bind fun t241 => (moraineref04_Walked.l0 k l0 t240 (wrap64 (t241)) 12 ([] : List (S65)))) = some (r1, r2, r3) := H
    have A3 := Aside0.mk A30
    clear A30
    replace H := Option.bind_eq_some_iff.mp H
    obtain ⟨t241, A40, H⟩ := H
    replace H : (moraineref04_Walked.l0 k l0 t240 (wrap64 (t241)) 12 ([] : List (S65))) = some (r1, r2, r3) := H
    have A4 := Aside0.mk A40
    clear A40
    have H' := Aside0.mk H
    clear H
    go_enter Try.func40, Try.ntmps40
    go_wp2_with (first | ((with_reducible refine gate_callee (f := 64) rfl ?_); refine goesL_ (some 15) rfl rfl Try.func64 (by kernel_rfl) rfl #[.slice A0 l0.length c0, .int .i64 0, .int .i64 8] rfl (by (try simp only [List.map_toArray, List.map_cons, List.map_nil]); first | done | rfl | (simp only [List.length_drop, List.length_take]; rfl)) ?_; (with_reducible refine (moraineref04_number.calls k _ _ l0 0 8 t240 _ ?side1 ?side2 A3.out).mono ?_); (case side1 => repeat (first | exact HR0.out | (with_reducible refine Kd.C_alloc ?_ _) | (with_reducible refine Kd.C_drewN ?_ _) | (with_reducible refine Kd.C_drew ?_))); (case side2 => exact HC0.out); rintro e w' ⟨rfl, ⟨nd, rfl⟩⟩; refine ⟨_, rfl, ?_⟩) | ((with_reducible refine gate_callee (f := 64) rfl ?_); refine goesL_ (some 17) rfl rfl Try.func64 (by kernel_rfl) rfl #[.slice A0 l0.length c0, .int .i64 8, .int .i64 4] rfl (by (try simp only [List.map_toArray, List.map_cons, List.map_nil]); first | done | rfl | (simp only [List.length_drop, List.length_take]; rfl)) ?_; (with_reducible refine (moraineref04_number.calls k _ _ l0 8 4 t241 _ ?side1 ?side2 A4.out).mono ?_); (case side1 => repeat (first | exact HR0.out | (with_reducible refine Kd.C_alloc ?_ _) | (with_reducible refine Kd.C_drewN ?_ _) | (with_reducible refine Kd.C_drew ?_))); (case side2 => exact HC0.out); rintro e w' ⟨rfl, ⟨nd, rfl⟩⟩; refine ⟨_, rfl, ?_⟩))
    go_loopg [7, 8] k (fun kq v7 v8 w' => ∃ (x7_1 : Int) (x8_1 : List (S65)), v7 = .int .i64 x7_1 ∧ Aside0 (moraineref04_Walked.l0 kq l0 t240 (wrap64 (t241)) x7_1 x8_1 = some (r1, r2, r3)) ∧ Aside0 (kq ≤ k) ∧ Aside0 (Kd.R k65 65 w' w.heap.size (fun _ => True) v8 x8_1) ∧ Aside0 (Below w.heap.size w w'))
    case atStart => exact ⟨(12), (([] : List (S65))), (by first | rfl | (simp; done) | (simp [*]; done)), H', ⟨Nat.le_refl _⟩, ⟨by first | exact Kd.R_nil _ _ _ _ _ | exact Kd.N_nil _ _ _ _ _ | exact Kd.V_nil _ _ _ _ _ | exact Kd.Q_nil _ _ _ _ _ | exact Kd.S_nil _ _ _ _ _⟩, ⟨by repeat (first | (with_reducible first | exact HB.out | apply below_alloc | apply pw_below_drewN | apply below_drew1) | exact HB.out)⟩⟩
    case round =>
      clear H'
      try clear c2
      try clear c2b0
      try clear c2b1
      try clear p2
      try clear c4
      obtain ⟨x7_1, x8_1, rfl, HA, HK1, HO_8, HB⟩ := hrel
      cases gk with
      | zero => exact absurd HA.out (by simp [moraineref04_Walked.l0])
      | succ k1 =>
        have H := HA.out
        clear HA
        simp only [moraineref04_Walked.l0] at H
        by_cases c5 : (x8_1.length : Int) < (wrap64 (t241))
        · rw [if_pos c5] at H
          have c5b0 : decide ((x8_1.length : Int) < (wrap64 (t241))) = true := decide_eq_true c5
          clear c5
          replace H := Option.bind_eq_some_iff.mp H
          obtain ⟨⟨t242, t243, t244, t245⟩, A60, H⟩ := H
          replace H : (if t245 < 0 then (some (t240, x8_1, x7_1)) else (if x8_1.length < 3518437208883 then (moraineref04_Walked.l0 k1 l0 t240 (wrap64 (t241)) t245 (x8_1 ++ [(⟨t242, t243, t244⟩ : S65)])) else (none))) = some (r1, r2, r3) := H
          have A6 := Aside0.mk A60
          clear A60
          by_cases c7 : t245 < 0
          · rw [if_pos c7] at H
            have c7b0 : decide (t245 < 0) = true := decide_eq_true c7
            clear c7
            simp only [Option.some.injEq, Prod.mk.injEq] at H
            obtain ⟨rfl, rfl, rfl⟩ := H
            obtain ⟨Ao8, co8, eo8⟩ := Kd.R_slice HO_8.out
            subst eo8
            go_wp2_with (first | ((with_reducible refine gate_callee (f := 67) rfl ?_); refine goesL_ (some 26) rfl rfl Try.func67 (by kernel_rfl) rfl #[.slice A0 l0.length c0, .int .i64 x7_1] rfl (by (try simp only [List.map_toArray, List.map_cons, List.map_nil]); first | done | rfl | (simp only [List.length_drop, List.length_take]; rfl)) ?_; (with_reducible refine (moraineref04_op.calls k1 _ _ l0 x7_1 t242 t243 t244 t245 _ ?side1 ?side2 A6.out).mono ?_); (case side1 => repeat (first | exact (Kd.C_below HR0.out HB.out) | (with_reducible refine Kd.C_alloc ?_ _) | (with_reducible refine Kd.C_drewN ?_ _) | (with_reducible refine Kd.C_drew ?_))); (case side2 => exact HC0.out); rintro e w9 ⟨rfl, hb⟩; refine ⟨_, rfl, ?_⟩; have n0_ := Aside0.mk (Kd.R_below (by (with_reducible repeat (first | apply Kd.R_alloc | apply Kd.R_drewN | apply Kd.R_drew)); exact HO_8.out) hb); have n1_ := Aside0.mk (below_step (by repeat (first | (with_reducible first | exact HB.out | apply below_alloc | apply pw_below_drewN | apply below_drew1) | exact HB.out)) hb); clear HO_8; clear HB; have HO_8 := n0_; have HB := n1_; clear n0_ n1_; (try clear hb); (try clear hb2); (try clear hk); (try clear hi)) | ((with_reducible refine gate_dst (N := 9) rfl ?_); refine box_event ?hg (N := 9) ?hd (cs := #[.int .i64 0, .string (⟨#[]⟩ : ByteArray), .string (⟨#[]⟩ : ByteArray)]) (t := 65) ?hr ?_; (case hd => rfl); (case hg => rfl); (case hr => first | (go_simp; done) | (go_simp; rfl)); intro gb246 hg w10 hbox hb; have n0_ := Aside0.mk (Kd.R_below (Kd.R_elderB (by (with_reducible repeat (first | apply Kd.R_alloc | apply Kd.R_drewN | apply Kd.R_drew)); exact HO_8.out) gb246 (Nat.le_of_eq hg.symm)) hb); have n1_ := Aside0.mk (below_step (by repeat (first | (with_reducible first | exact HB.out | apply below_alloc | apply pw_below_drewN | apply below_drew1) | exact HB.out)) hb); have n2_ := Aside0.mk (hbox); have n3_ := Aside0.mk ((by rw [hg]; exact (below_size (by repeat (first | (with_reducible first | exact HB.out | apply below_alloc | apply pw_below_drewN | apply below_drew1) | exact HB.out))) : w.heap.size ≤ gb246)); have n4_ := Aside0.mk ((by rw [hg]; exact (below_size (by repeat (first | (with_reducible first | exact HB.out | apply below_alloc | apply pw_below_drewN | apply below_drew1) | exact HB.out))) : w.heap.size ≤ gb246)); clear HO_8; clear HB; have HO_8 := n0_; have HB := n1_; have BK246 := n2_; have GW246 := n3_; have GE246 := n4_; clear n0_ n1_ n2_ n3_ n4_; clear hb hbox hg; have hcz11_0 : w10.cell? ⟨gb246, 0, none⟩ = some (.int .i64 0) := (blk_cell BK246.out 0).trans rfl; have hcz11_1 : w10.cell? ⟨gb246, 1, none⟩ = some (.string (⟨#[]⟩ : ByteArray)) := (blk_cell BK246.out 1).trans rfl; have hcz11_2 : w10.cell? ⟨gb246, 2, none⟩ = some (.string (⟨#[]⟩ : ByteArray)) := (blk_cell BK246.out 2).trans rfl; have hfz11_0 := blk_frozen BK246.out 0; have hfz11_1 := blk_frozen BK246.out 1; have hfz11_2 := blk_frozen BK246.out 2))
            go_ret3
            exact ⟨_, by first | rfl | (simp [errW_none, errW_some] <;> rfl) | (simp [*, errW_none, errW_some] <;> rfl), by (with_reducible repeat (first | apply Kd.R_alloc | apply Kd.R_drewN | apply Kd.R_drew)); exact Kd.R_mono (Kd.R_far (p := ⟨gb246, 2, none⟩) (Kd.R_far (p := ⟨gb246, 1, none⟩) (Kd.R_far (p := ⟨gb246, 0, none⟩) (Kd.R_mono HO_8.out (fun k_ hk => (⟨hk, hk.2⟩ : _ ∧ k_ ≠ gb246))) (fun _ hk => hk.2) (.int .i64 t242)) (fun _ hk => hk.2) (.string t243)) (fun _ hk => hk.2) (.string t244)) (fun _ hk => trivial), by repeat (first | (with_reducible first | exact HB.out | apply below_alloc | apply pw_below_drewN | apply below_drew1 | refine below_set ?_ GE246.out) | exact HB.out)⟩
          · rw [if_neg c7] at H
            have c7b0 : decide (t245 < 0) = false := decide_eq_false c7
            clear c7
            by_cases c12 : x8_1.length < 3518437208883
            · rw [if_pos c12] at H
              have LMc12 := Aside0.mk c12
              clear c12
              obtain ⟨y247, hy247⟩ : ∃ y_ : List (S65), y_ = (x8_1 ++ [(⟨t242, t243, t244⟩ : S65)]) := ⟨_, rfl⟩
              replace H : (moraineref04_Walked.l0 k1 l0 t240 (wrap64 (t241)) t245 y247) = some (r1, r2, r3) := by first | (rw [hy247]; with_reducible exact H) | (have H2_ := (Option.bind_some _ _).symm.trans H; rw [hy247]; with_reducible exact H2_) | (have H2_ := (Option.bind_some _ _).symm.trans H; with_reducible exact H2_) | with_reducible exact H | (rw [hy247]; exact H) | exact H
              have Ny247 := Aside0.mk hy247
              clear hy247
              have H' := Aside0.mk H
              clear H
              obtain ⟨Ao13, co13, eo13⟩ := Kd.R_slice HO_8.out
              subst eo13
              go_wp2_with (first | ((with_reducible refine gate_callee (f := 67) rfl ?_); refine goesL_ (some 26) rfl rfl Try.func67 (by kernel_rfl) rfl #[.slice A0 l0.length c0, .int .i64 x7_1] rfl (by (try simp only [List.map_toArray, List.map_cons, List.map_nil]); first | done | rfl | (simp only [List.length_drop, List.length_take]; rfl)) ?_; (with_reducible refine (moraineref04_op.calls k1 _ _ l0 x7_1 t242 t243 t244 t245 _ ?side1 ?side2 A6.out).mono ?_); (case side1 => repeat (first | exact (Kd.C_below HR0.out HB.out) | (with_reducible refine Kd.C_alloc ?_ _) | (with_reducible refine Kd.C_drewN ?_ _) | (with_reducible refine Kd.C_drew ?_))); (case side2 => exact HC0.out); rintro e w14 ⟨rfl, hb⟩; refine ⟨_, rfl, ?_⟩; have n0_ := Aside0.mk (Kd.R_below (by (with_reducible repeat (first | apply Kd.R_alloc | apply Kd.R_drewN | apply Kd.R_drew)); exact HO_8.out) hb); have n1_ := Aside0.mk (below_step (by repeat (first | (with_reducible first | exact HB.out | apply below_alloc | apply pw_below_drewN | apply below_drew1) | exact HB.out)) hb); clear HO_8; clear HB; have HO_8 := n0_; have HB := n1_; clear n0_ n1_; (try clear hb); (try clear hb2); (try clear hk); (try clear hi)) | ((with_reducible refine gate_dst (N := 9) rfl ?_); refine box_event ?hg (N := 9) ?hd (cs := #[.int .i64 0, .string (⟨#[]⟩ : ByteArray), .string (⟨#[]⟩ : ByteArray)]) (t := 65) ?hr ?_; (case hd => rfl); (case hg => rfl); (case hr => first | (go_simp; done) | (go_simp; rfl)); intro gb246 hg w15 hbox hb; have n0_ := Aside0.mk (Kd.R_below (Kd.R_elderB (by (with_reducible repeat (first | apply Kd.R_alloc | apply Kd.R_drewN | apply Kd.R_drew)); exact HO_8.out) gb246 (Nat.le_of_eq hg.symm)) hb); have n1_ := Aside0.mk (below_step (by repeat (first | (with_reducible first | exact HB.out | apply below_alloc | apply pw_below_drewN | apply below_drew1) | exact HB.out)) hb); have n2_ := Aside0.mk (hbox); have n3_ := Aside0.mk ((by rw [hg]; exact (below_size (by repeat (first | (with_reducible first | exact HB.out | apply below_alloc | apply pw_below_drewN | apply below_drew1) | exact HB.out))) : w.heap.size ≤ gb246)); have n4_ := Aside0.mk ((by rw [hg]; exact (below_size (by repeat (first | (with_reducible first | exact HB.out | apply below_alloc | apply pw_below_drewN | apply below_drew1) | exact HB.out))) : w.heap.size ≤ gb246)); clear HO_8; clear HB; have HO_8 := n0_; have HB := n1_; have BK246 := n2_; have GW246 := n3_; have GE246 := n4_; clear n0_ n1_ n2_ n3_ n4_; clear hb hbox hg; have hcz16_0 : w15.cell? ⟨gb246, 0, none⟩ = some (.int .i64 0) := (blk_cell BK246.out 0).trans rfl; have hcz16_1 : w15.cell? ⟨gb246, 1, none⟩ = some (.string (⟨#[]⟩ : ByteArray)) := (blk_cell BK246.out 1).trans rfl; have hcz16_2 : w15.cell? ⟨gb246, 2, none⟩ = some (.string (⟨#[]⟩ : ByteArray)) := (blk_cell BK246.out 2).trans rfl; have hfz16_0 := blk_frozen BK246.out 0; have hfz16_1 := blk_frozen BK246.out 1; have hfz16_2 := blk_frozen BK246.out 2) | ((with_reducible refine gate_builtin (b := .append) (xs := #[.tmp 34, .tmp 36]) rfl ?_); at_builtin; refine Kd.R_append k65 (w0 := w) w.heap.size rfl (.tmp 34) (.tmp 36) 22 65 (.agg #[(.int .i64 0), (.string ⟨#[]⟩), (.string ⟨#[]⟩)]) 40 rfl Try.underlying22 info65 rfl (by decide) (by omega) (.slice Ao13 x8_1.length co13) x8_1 (⟨t242, t243, t244⟩ : S65) [.int .i64 t242, .string t243, .string t244] (fun k_ => k_ ≠ gb246) (fun _ => False) rfl (by first | (go_simp; done) | (go_simp; rfl)) ?aP (fun _ hk => hk.elim) ?aF ?aO ?aB ?aS ?aL ?_; (case aP => exact k65_mkM _ _ _ (⟨t242, t243, t244⟩ : S65)); (case aB => exact (by repeat (first | (with_reducible first | exact HB.out | apply below_alloc | apply pw_below_drewN | apply below_drew1 | refine below_set ?_ GE246.out) | exact HB.out))); (case aF => exact (fun k_ hk => Kd.freshB (g := gb246) (o := .cells #[.int .i64 t242, .string t243, .string t244] 65 (0, 0)) (by (with_reducible repeat (first | refine blk_drewN ?_ _ | refine blk_drew ?_ | refine blk_alloc ?_ _)); refine blk_put (cs := #[.int .i64 t242, .string t243, .string (⟨#[]⟩ : ByteArray)]) ?_ 2 _ rfl; (with_reducible repeat (first | refine blk_drewN ?_ _ | refine blk_drew ?_ | refine blk_alloc ?_ _)); refine blk_put (cs := #[.int .i64 t242, .string (⟨#[]⟩ : ByteArray), .string (⟨#[]⟩ : ByteArray)]) ?_ 1 _ rfl; (with_reducible repeat (first | refine blk_drewN ?_ _ | refine blk_drew ?_ | refine blk_alloc ?_ _)); refine blk_put (cs := #[.int .i64 0, .string (⟨#[]⟩ : ByteArray), .string (⟨#[]⟩ : ByteArray)]) ?_ 0 _ rfl; (with_reducible repeat (first | refine blk_drewN ?_ _ | refine blk_drew ?_ | refine blk_alloc ?_ _)); exact BK246.out) k_ hk)); (case aO => exact (by (with_reducible repeat (first | apply Kd.R_alloc | apply Kd.R_drewN | apply Kd.R_drew)); exact Kd.R_mono (Kd.R_far (p := ⟨gb246, 2, none⟩) (Kd.R_far (p := ⟨gb246, 1, none⟩) (Kd.R_far (p := ⟨gb246, 0, none⟩) (Kd.R_mono HO_8.out (fun k_ hk => (⟨hk, hk.2⟩ : _ ∧ k_ ≠ gb246))) (fun _ hk => hk.2) (.int .i64 t242)) (fun _ hk => hk.2) (.string t243)) (fun _ hk => hk.2) (.string t244)) (fun _ hk => hk.1.2))); (case aS => exact (below_size (by repeat (first | (with_reducible first | exact HB.out | apply below_alloc | apply pw_below_drewN | apply below_drew1 | refine below_set ?_ GE246.out) | exact HB.out)))); (case aL => have := LMc12.out; omega); intro v248 w17 ho hb hg hat; rw [← Ny247.out] at ho; have n0_ := Aside0.mk (blk_grown (g := gb246) (o := .cells #[.int .i64 t242, .string t243, .string t244] 65 (0, 0)) (by (with_reducible repeat (first | refine blk_drewN ?_ _ | refine blk_drew ?_ | refine blk_alloc ?_ _)); refine blk_put (cs := #[.int .i64 t242, .string t243, .string (⟨#[]⟩ : ByteArray)]) ?_ 2 _ rfl; (with_reducible repeat (first | refine blk_drewN ?_ _ | refine blk_drew ?_ | refine blk_alloc ?_ _)); refine blk_put (cs := #[.int .i64 t242, .string (⟨#[]⟩ : ByteArray), .string (⟨#[]⟩ : ByteArray)]) ?_ 1 _ rfl; (with_reducible repeat (first | refine blk_drewN ?_ _ | refine blk_drew ?_ | refine blk_alloc ?_ _)); refine blk_put (cs := #[.int .i64 0, .string (⟨#[]⟩ : ByteArray), .string (⟨#[]⟩ : ByteArray)]) ?_ 0 _ rfl; (with_reducible repeat (first | refine blk_drewN ?_ _ | refine blk_drew ?_ | refine blk_alloc ?_ _)); exact BK246.out) hg (Kd.R_away HO_8.out (fun _ hk => hk.2))); have n1_ := Aside0.mk (hb); have n2_ := Aside0.mk (ho); clear BK246; clear HB; clear HO_8; have BK246 := n0_; have HB := n1_; have HO249 := n2_; clear n0_ n1_ n2_; clear ho hb hg hat))
              go_roundg k1
              case measure => have := HK1.out; omega
              case rel => exact ⟨(t245), (y247), (by first | rfl | (simp; done) | (simp [*]; done)), H', ⟨by have := HK1.out; omega⟩, ⟨by (with_reducible repeat (first | apply Kd.R_alloc | apply Kd.R_drewN | apply Kd.R_drew)); exact Kd.R_mono HO249.out (fun _ hk => trivial)⟩, ⟨by repeat (first | (with_reducible first | exact HB.out | apply below_alloc | apply pw_below_drewN | apply below_drew1 | refine below_set ?_ GE246.out) | exact HB.out)⟩⟩
            · rw [if_neg c12] at H
              exact absurd H (by simp)
        · rw [if_neg c5] at H
          have c5b0 : decide ((x8_1.length : Int) < (wrap64 (t241))) = false := decide_eq_false c5
          clear c5
          simp only [Option.some.injEq, Prod.mk.injEq] at H
          obtain ⟨rfl, rfl, rfl⟩ := H
          obtain ⟨Ao18, co18, eo18⟩ := Kd.R_slice HO_8.out
          subst eo18
          go_wp2
          go_ret3
          exact ⟨_, by first | rfl | (simp [errW_none, errW_some] <;> rfl) | (simp [*, errW_none, errW_some] <;> rfl), by (with_reducible repeat (first | apply Kd.R_alloc | apply Kd.R_drewN | apply Kd.R_drew)); exact HO_8.out, by repeat (first | (with_reducible first | exact HB.out | apply below_alloc | apply pw_below_drewN | apply below_drew1) | exact HB.out)⟩

end Go.Proofs.Ythkooncibfkepaa.G
