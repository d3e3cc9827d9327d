/- Contracts of functions and plain laws, several texts of the session put together by its program. -/
import Derived.Test.YtmpkigambfghgaaDoorProg
import Derived.Below
import Derived.Deep.Draws
import Derived.Deep.AppendLies
import Derived.Maps.AppendAt
import Derived.OwnWalk
import Derived.Laws.BytesArg
import Derived.Laws.MakeOwn
import Derived.Laws.OwnMore
import Derived.Deep.OwnRows
import Derived.Tactics
import Derived.Lib.ConvBytes
import Derived.Laws.Slices
import Derived.WalkKit
import Derived.KernelRfl
import Derived.RowKit3
import Derived.Deep.LoopGhost
import Derived.Deep.QuietTactic
import Derived.BigQuiet
import Derived.WideLaws
import Derived.Deep.DeepCutAuto
import Derived.Deep.CutBlock
import Derived.Deep.RegionHeld3
import Derived.Laws.Rows
import Derived.Lib.AppendStr
import Derived.ArgAppend
import Derived.Laws.IdiomCopy
import Derived.OrdersHeld
import Derived.Laws.BitsLemmas
import Derived.RowKit
import Derived.Test.YtmpkigambfghgaaDoorWWords
import Derived.Test.YtmpkigambfghgaaDoorWLast
import Derived.Test.YtmpkigambfghgaaDoorWTab
import Derived.Test.YtmpkigambfghgaaDoorWFour
import Derived.Test.YtmpkigambfghgaaDoorWQPut
import Derived.Test.YtmpkigambfghgaaDoorWApart
import Derived.Test.YtmpkigambfghgaaDoorWArr
import Derived.Test.YtmpkigambfghgaaDoorWZeros
import Derived.Test.YtmpkigambfghgaaDoorWFoot
import Derived.Test.YtmpkigambfghgaaDoorWKept
import Derived.Test.YtmpkigambfghgaaDoorWShare
import Derived.Test.YtmpkigambfghgaaDoorWN
import Derived.Test.YtmpkigambfghgaaDoorWFootNe
import Derived.Test.YtmpkigambfghgaaDoorWAt
import Derived.Test.YtmpkigambfghgaaDoorWEqStruct
import Derived.Test.YtmpkigambfghgaaDoorWRepsOne
import Derived.Test.YtmpkigambfghgaaDoorWInv
import Derived.Test.YtmpkigambfghgaaDoorWInvWords
import Derived.Test.YtmpkigambfghgaaDoorWGuard
import Derived.Test.YtmpkigambfghgaaDoorWNEv
import Derived.Test.YtmpkigambfghgaaDoorWMore
import Derived.Test.YtmpkigambfghgaaDoorQ0
import Derived.Deep.Cut
import Derived.Lib.QuoteBits
import Derived.WalkMore
import Derived.RangeFuncRecord
import Derived.Shelf.Abstract
import Derived.BigRegionIn
import Derived.Test.YtmpkigambfghgaaDoorRows
import Derived.Deep.Slices
import Derived.Deep.Fields
import Derived.ChangeSame
import Derived.Deep.Strs
import Derived.Lib.SmallJoins

/- Contracts typed by hand: journal: a reader's goOn by hand -/
namespace Go.Proofs.YtmpkigambfghgaaDoor.G
open Go.RowKit Go.Proofs.YtmpkigambfghgaaDoorW.PrintWords Go.Proofs.YtmpkigambfghgaaDoorW.PrintLast Go.Proofs.YtmpkigambfghgaaDoorW.PrintMore
attribute [local go_sem] max2_int min2_int max_two min_two max_three min_three max_four min_four
set_option linter.unusedVariables false
set_option linter.unusedSimpArgs false

/-! journal: a reader's goOn by hand -/
theorem Reads.split {blk : Nat} {f : List Int} {p : Nat} {d : List Int} {o : Bool} {l : List (Nat × List Int)} {how : Nat} (h : Reads blk f p d o l how) :
    (f.length ≤ p ∧ l = [] ∧ how = (if o then 1 else 0)) ∨
    (p < f.length ∧ blk - p % blk < 7 ∧ (∀ i, p ≤ i → i < min (p + (blk - p % blk)) f.length → rdn f i = 0) ∧ Reads blk f (min (p + (blk - p % blk)) f.length) d o l how) ∨
    (p < f.length ∧ blk - p % blk < 7 ∧ l = [] ∧ how = 2 ∧ ∃ i, p ≤ i ∧ i < min (p + (blk - p % blk)) f.length ∧ rdn f i ≠ 0 ∧ (∀ j, p ≤ j → j < i → rdn f j = 0)) ∨
    (p < f.length ∧ 7 ≤ blk - p % blk ∧ f.length < p + 7 ∧ l = [] ∧ how = 1) ∨
    (p + 7 ≤ f.length ∧ 7 ≤ blk - p % blk ∧ (rdn f (p + 6) < 1 ∨ 4 < rdn f (p + 6) ∨ blk - p % blk - 7 < nN f p) ∧ l = [] ∧ how = 2) ∨
    (p + 7 ≤ f.length ∧ 7 ≤ blk - p % blk ∧ 1 ≤ rdn f (p + 6) ∧ rdn f (p + 6) ≤ 4 ∧ nN f p ≤ blk - p % blk - 7 ∧ f.length < p + 7 + nN f p ∧ l = [] ∧ how = 1) ∨
    (p + 7 + nN f p ≤ f.length ∧ 7 ≤ blk - p % blk ∧ 1 ≤ rdn f (p + 6) ∧ rdn f (p + 6) ≤ 4 ∧ nN f p ≤ blk - p % blk - 7 ∧ bentN f p d o = true ∧ l = [] ∧ how = 2) ∨
    (p + 7 + nN f p ≤ f.length ∧ 7 ≤ blk - p % blk ∧ nN f p ≤ blk - p % blk - 7 ∧ bentN f p d o = false ∧ (rdn f (p + 6) = 2 ∨ rdn f (p + 6) = 3) ∧ Reads blk f (p + 7 + nN f p) (d ++ dataN f p) true l how) ∨
    (p + 7 + nN f p ≤ f.length ∧ 7 ≤ blk - p % blk ∧ nN f p ≤ blk - p % blk - 7 ∧ bentN f p d o = false ∧ (rdn f (p + 6) = 1 ∨ rdn f (p + 6) = 4) ∧ ∃ l', l = (p + 7 + nN f p, d ++ dataN f p) :: l' ∧ Reads blk f (p + 7 + nN f p) [] false l' how) := by
  cases h with
  | fin _ _ _ h1 => exact .inl ⟨h1, rfl, rfl⟩
  | pad _ _ _ _ _ h1 h2 h3 h4 => exact .inr (.inl ⟨h1, h2, h3, h4⟩)
  | padBent _ _ _ i h1 h2 h3 h4 h5 h6 => exact .inr (.inr (.inl ⟨h1, h2, rfl, rfl, i, h3, h4, h5, h6⟩))
  | short _ _ _ h1 h2 h3 => exact .inr (.inr (.inr (.inl ⟨h1, h2, h3, rfl, rfl⟩)))
  | none _ _ _ h1 h2 h3 => exact .inr (.inr (.inr (.inr (.inl ⟨h1, h2, h3, rfl, rfl⟩))))
  | torn _ _ _ h1 h2 h3 h4 h5 h6 => exact .inr (.inr (.inr (.inr (.inr (.inl ⟨h1, h2, h3, h4, h5, h6, rfl, rfl⟩)))))
  | bent _ _ _ h1 h2 h3 h4 h5 h6 => exact .inr (.inr (.inr (.inr (.inr (.inr (.inl ⟨h1, h2, h3, h4, h5, h6, rfl, rfl⟩))))))
  | more _ _ _ _ _ h1 h2 h3 h4 h5 h6 => exact .inr (.inr (.inr (.inr (.inr (.inr (.inr (.inl ⟨h1, h2, h3, h4, h5, h6⟩)))))))
  | whole _ _ _ l' _ h1 h2 h3 h4 h5 h6 => exact .inr (.inr (.inr (.inr (.inr (.inr (.inr (.inr ⟨h1, h2, h3, h4, h5, l', rfl, h6⟩)))))))
/-- what is yielded: the place behind a record, the record, its slice, the heap's size when it began -/
abbrev Yx := Nat × List Int × Value × Nat
def encY (x : Yx) : Array Value := #[.int .i64 (x.1 : Int), x.2.2.1]
def outY (x : Yx) : Nat × List Int := (x.1, x.2.1)
def OkY (x : Yx) (A : World) : Prop := Kd.R (Kd.int .u8) 5 A x.2.2.2 (fun _ => True) x.2.2.1 x.2.1
theorem RdAt.chg {W W1 : World} {R blk n c p : Nat} {A : Option Addr} {v : Value} {o : Bool} {M : Nat → Prop} (h : RdAt W R blk A n c p v o) (hc : Chg M W W1) (hm : ¬ M R) : RdAt W1 R blk A n c p v o := (hc.block R (blk_lt h) hm).trans h
theorem RdAt.drewN {W : World} {R blk n c p : Nat} {A : Option Addr} {v : Value} {o : Bool} (h : RdAt W R blk A n c p v o) (m : Nat) : RdAt (W.drewN m) R blk A n c p v o := h
theorem Chg.drewN (M : Nat → Prop) (W : World) (m : Nat) : Chg M W (W.drewN m) := Chg.below (pw_below_drewN (Below.refl _ _) m)
theorem below_chg {w W W1 : World} {M : Nat → Prop} (h : Below w.heap.size w W) (hc : Chg M W W1) (hm : ∀ k, M k → w.heap.size ≤ k) : Below w.heap.size w W1 :=
  ⟨hc.os.trans h.os, hc.tape.trans h.tape, hc.output.trans h.output, Nat.le_trans h.size hc.size, fun k hk => (hc.block k (Nat.lt_of_lt_of_le hk h.size) (fun hx => by have := hm k hx; omega)).trans (h.block k hk)⟩
theorem i64_or_small (a b : Nat) (ha : a < 4294967296) (hb : b < 4294967296) : bits .or .i64 (a : Int) (b : Int) = ((a ||| b : Nat) : Int) := by
  have hx : a ||| b < 2 ^ 32 := Nat.or_lt_two_pow (by omega) (by omega)
  show IntKind.i64.wrap ((BitVec.ofInt 64 (a : Int) ||| BitVec.ofInt 64 (b : Int)).toNat : Int) = _
  rw [BitVec.toNat_or, ofInt_u64 a (by omega), ofInt_u64 b (by omega)]
  exact Lib.wrap_i64_small _ (by omega)
theorem or_i64 (x0 x1 : Nat) (h0 : x0 < 256) (h1 : x1 < 256) : bits .or .i64 (x0 : Int) ((x1 : Int) * 256) = ((x0 + 256 * x1 : Nat) : Int) := by
  rw [show (x1 : Int) * 256 = ((2 ^ 8 * x1 : Nat) : Int) by omega, i64_or_small _ _ (by omega) (by omega), Nat.or_comm, ← Nat.two_pow_add_eq_or_of_lt (by omega : x0 < 2 ^ 8) x1]
  omega
theorem data_cut (f : List Int) (p n : Nat) : ((f.drop p).take (7 + n)).drop 7 = (f.drop (p + 7)).take n := by
  rw [List.drop_take, List.drop_drop, show 7 + n - 7 = n by omega]
theorem RdAt.set2 {W : World} {R blk n c p : Nat} {A : Option Addr} {v : Value} {o : Bool} (h : RdAt W R blk A n c p v o) (p' : Nat) : RdAt (W.setCell ⟨R, 2, none⟩ (.int .i64 (p' : Int))) R blk A n c p' v o := blk_put h 2 _ rfl
theorem RdAt.set3 {W : World} {R blk n c p : Nat} {A : Option Addr} {v : Value} {o : Bool} (h : RdAt W R blk A n c p v o) (v' : Value) (hv : v'.oneCell' = true) : RdAt (W.setCell ⟨R, 3, none⟩ v') R blk A n c p v' o := blk_put h 3 _ rfl
theorem RdAt.set4 {W : World} {R blk n c p : Nat} {A : Option Addr} {v : Value} {o : Bool} (h : RdAt W R blk A n c p v o) (o' : Bool) : RdAt (W.setCell ⟨R, 4, none⟩ (.bool o')) R blk A n c p v o' := blk_put h 4 _ rfl
theorem RdAt.frozen {W : World} {R blk n c p : Nat} {A : Option Addr} {v : Value} {o : Bool} (h : RdAt W R blk A n c p v o) (j : Nat) : W.frozen? ⟨R, j, none⟩ = false := blk_frozen h j
theorem chg_grown {M : Nat → Prop} {Y W W1 : World} {row : Option Nat} (h : Chg M Y W) (hg : W.grownBy W1 row) (hm : ∀ k, row = some k → Y.heap.size ≤ k) : Chg M Y W1 :=
  ⟨hg.os.trans h.os, hg.tape.trans h.tape, hg.output.trans h.output, Nat.le_trans h.size hg.size, fun k hk hn => (hg.block k (Nat.lt_of_lt_of_le hk h.size) (fun e => by have := hm k e.symm; omega)).trans (h.block k hk hn)⟩
theorem RdAt.below {W W1 : World} {R blk n c p : Nat} {A : Option Addr} {v : Value} {o : Bool} (h : RdAt W R blk A n c p v o) (hb : Below W.heap.size W W1) : RdAt W1 R blk A n c p v o := (hb.block R (blk_lt h)).trans h
theorem R_rd {W : World} {R blk n c p : Nat} {A : Option Addr} {v : Value} {o : Bool} {b : Nat} {ok : Nat → Prop} {u : Value} {xs : List Int} (h : Kd.R (Kd.int .u8) 5 W b ok u xs) (hr : RdAt W R blk A n c p v o) (j : Nat) (x : Value) : Kd.R (Kd.int .u8) 5 (W.setCell ⟨R, j, none⟩ x) b ok u xs := Kd.R_set h hr (by decide) j x
theorem drew2 (W : World) (a b : Nat) : ∃ nd, (W.drewN a).drewN b = W.drewN nd := ⟨a + b, by simp⟩
def MY (R B : Nat) (V : Nat → Prop) (k : Nat) : Prop := k = R ∨ V k ∨ B ≤ k
set_option maxHeartbeats 16000000 in
set_option maxRecDepth 100000 in
theorem goOn_calls (l m R blk B0 : Nat) (A : Option Addr) (c : Nat) (f : List Int) (wf W : World) (M V : Nat → Prop) (J Jx : List Yx → World → Prop) (outs : List (Nat × List Int)) (how : Nat)
    (h1 : 32 ≤ blk) (h2 : blk ≤ 32768) (hR : RdAt W R blk A f.length c 0 (.slice none 0 0) false) (hC : Kd.C (Kd.int .u8) wf A f.length f) (hc : f.length ≤ c) (hb : Byt f) (hl : f.length ≤ 1099511627776) (hwf : Below wf.heap.size wf W) (hT : TabAt wf)
    (hMR : M R) (hRf : wf.heap.size ≤ R) (hV : ∀ k, V k → wf.heap.size ≤ k ∧ k ≠ R) (hRB : R < B0) (hBW : B0 ≤ W.heap.size)
    (hJ : ∀ s X Y, J s X → Chg M X Y → J s Y)
    (hY : ∀ pre x X, J pre X → (∃ Y, J pre Y ∧ Y.heap.size ≤ x.2.2.2) → B0 ≤ X.heap.size → OkY x X → (pre ++ [x]).map outY <+: outs → YieldAt Fence.wide m Tryd.prog l (encY x) X fun e Y =>
      (e = .returned (.bool true) ∧ J (pre ++ [x]) Y ∧ Chg (fun k => V k ∨ B0 ≤ k) X Y) ∨ (e = .returned (.bool false) ∧ Jx (pre ++ [x]) Y ∧ Chg (fun k => V k ∨ B0 ≤ k) X Y))
    (h0 : J [] W) (hrd : Reads blk f 0 [] false outs how) :
    Calls Tryd.prog 34 #[.pointer (some ⟨R, 0, none⟩), .func (.yield l) #[] #[]] W fun e Y => Chg (MY R B0 V) W Y ∧
      ((∃ xs, e = .returned (.int .i64 (how : Int)) ∧ xs.map outY = outs ∧ J xs Y) ∨ (∃ pre, e = .returned (.int .i64 0) ∧ pre.map outY <+: outs ∧ Jx pre Y)) := by
  have HC := Aside0.mk hC
  have HCC := Aside0.mk hc
  have HBY := Aside0.mk hb
  have HLEN := Aside0.mk hl
  have HWF := Aside0.mk hwf
  have HT := Aside0.mk hT
  have HMR := Aside0.mk hMR
  have HV := Aside0.mk hV
  have HRB := Aside0.mk hRB
  have HRF := Aside0.mk hRf
  have HBW := Aside0.mk hBW
  have HJ := Aside0.mk hJ
  have HY := Aside0.mk hY
  have H0 := Aside0.mk h0
  have HRD0 := Aside0.mk hrd
  have HR0 := Aside0.mk hR
  have HWM := Aside0.mk (fun Y (hY : Chg (MY R B0 V) W Y) => below_chg hwf hY (by rintro k (rfl | h | h); exact hRf; exact (hV k h).1; omega))
  have hinfo : (Tryd.prog.info? 5).map (fun i => (i.zero, i.size, i.bytes)) = some (some (.int .u8 0), 1, 1) := by kernel_rfl
  have HI := Aside0.mk hinfo
  clear hC hc hb hl hwf hT hMR hV hRB hRf hBW hJ hY h0 hrd hR hinfo
  go_enter Tryd.func34, Tryd.ntmps34
  go_wp2
  go_step3
  go_wp2
  go_step3
  go_wp2
  go_loopg [] f.length (fun kq wr => ∃ (pre : List Yx) (Y : World) (p : Nat) (d : List Int) (v : Value) (o : Bool) (outs' : List (Nat × List Int)), p ≤ 1099511700000 ∧ f.length ≤ p + kq ∧ Aside0 (RdAt wr R blk A f.length c p v o) ∧ Aside0 (Reads blk f p d o outs' how) ∧ Aside0 (pre.map outY ++ outs' = outs) ∧ Aside0 (J pre Y) ∧ Aside0 (Chg M Y wr) ∧ Aside0 (B0 ≤ Y.heap.size) ∧ Aside0 (Kd.R (Kd.int .u8) 5 wr Y.heap.size (fun _ => True) v d) ∧ Aside0 (d.length ≤ p) ∧ Aside0 (Chg (MY R B0 V) W wr))
  case atStart => exact ⟨[], W, 0, [], .slice none 0 0, false, outs, by omega, by omega, HR0, HRD0, ⟨rfl⟩, H0, ⟨Chg.refl _ _⟩, HBW, ⟨Kd.R_nil _ _ _ _ _⟩, ⟨by simp⟩, ⟨Chg.refl _ _⟩⟩
  case round =>
    obtain ⟨G, rfl⟩ : ∃ G, G = gk := ⟨gk, rfl⟩
    obtain ⟨pre, Y, p, d, v, o, outs', hp0, hkq, HR, HRD, HOUT, HJY, HCY, HBY0, HD, HDL, HCW⟩ := hrel
    obtain ⟨Av, cv, rfl⟩ := Kd.R_slice HD.out
    have hcs := HR.out.c
    obtain ⟨c0, c1, c2, c3, c4⟩ := hcs
    obtain ⟨pm, hpm⟩ : ∃ pm, p % blk = pm := ⟨_, rfl⟩
    have hpmlt : pm < blk := by rw [← hpm]; exact Nat.mod_lt _ (by omega)
    have hpmi : (p : Int) % (blk : Int) = (pm : Int) := by omega
    have hblk0 : ((blk : Int) == 0) = false := by simp; omega
    have hlen0 := HLEN.out
    have hrs := HRD.out.split
    rw [hpm] at hrs
    have HPM := Aside0.mk hpm
    clear hpm HRD
    by_cases hpl : p < f.length
    rotate_left
    · -- the file's end
      have hq : outs' = [] ∧ how = (if o then 1 else 0) := by
        rcases hrs with ⟨_, q2, q3⟩ | ⟨q1, _⟩ | ⟨q1, _⟩ | ⟨q1, _⟩ | ⟨q1, _⟩ | ⟨q1, _⟩ | ⟨q1, _⟩ | ⟨q1, _⟩ | ⟨q1, _⟩
        · exact ⟨q2, q3⟩
        all_goals omega
      have Q2 := Aside0.mk hq.1
      have Q3 := Aside0.mk hq.2
      clear hq hrs
      have b1 : decide ((p : Int) < (f.length : Int)) = false := decide_eq_false (by omega)
      have b2 : decide (p < f.length) = false := decide_eq_false (by omega)
      cases o
      all_goals
        go_wp2
        go_quiet (fail)
        all_goals go_wp2
        all_goals
          rw [Exit.noGoto_ret]
          go_ret
          exact ⟨HCW.out.trans (by repeat (first | exact Chg.refl _ _ | exact Chg.drewN _ _ _ | refine Chg.trans ?_ (Chg.drewN _ _ _))), .inl ⟨pre, by rw [Q3.out]; first | rfl | (simp [*]; done), by have := HOUT.out; rw [Q2.out, List.append_nil] at this; exact this, HJ.out _ _ _ HJY.out (HCY.out.trans (by repeat (first | exact Chg.refl _ _ | exact Chg.drewN _ _ _ | refine Chg.trans ?_ (Chg.drewN _ _ _))))⟩⟩
    have HRS := Aside0.mk hrs
    have b1 : decide ((p : Int) < (f.length : Int)) = true := decide_eq_true (by omega)
    have b2 : decide (p < f.length) = true := decide_eq_true (by omega)
    obtain ⟨ad, e1, _⟩ := byte_at (Kd.C_below HC.out (HWM.out wr HCW.out)) p hpl HBY.out
    subst e1
    clear hrs
    go_wp2
    go_quiet (fail)
    all_goals go_wp2
    go_quiet (fail)
    all_goals go_wp2
    go_loopg [] 1 (fun _ w3 => ∃ nd, w3 = wr.drewN nd)
    case atStart => exact drew2 _ _ _
    obtain ⟨nd, rfl⟩ := hrel
    rcases HRS.out with ⟨q1, q2, q3⟩ | ⟨q1, q2, q3, q4⟩ | ⟨q1, q2, q3, q4, i0, q5, q6, q7, q8⟩ | ⟨q1, q2, q3, q4, q5⟩ | ⟨q1, q2, q3, q4, q5⟩ | ⟨q1, q2, q3, q4, q5, q6, q7, q8⟩ | ⟨q1, q2, q3, q4, q5, q6, q7, q8⟩ | ⟨q1, q2, q3, q4, q5, q6⟩ | ⟨q1, q2, q3, q4, q5, l', q6, q7⟩
    · omega
    · -- noughts behind which nothing fits
      have Q3 := Aside0.mk q3
      have Q4 := Aside0.mk q4
      clear q3 q4
      have b3 : decide ((blk : Int) - (pm : Int) < 7) = true := decide_eq_true (by omega)
      obtain ⟨hi, hhi⟩ : ∃ hi, min (p + (blk - pm)) f.length = hi := ⟨_, rfl⟩
      have hhip : p < hi := by omega
      have hhil : hi ≤ f.length := by omega
      have hmn1 : (if (f.length : Int) < (p : Int) + ((blk : Int) - (pm : Int)) then (f.length : Int) else (p : Int) + ((blk : Int) - (pm : Int))) = (hi : Int) := by split <;> omega
      rw [hhi] at Q3 Q4
      obtain ⟨i1, hi0, _, hsz0, _⟩ := info_parts HI.out
      have hcut := cut_mid (P := Tryd.prog) 22 5 .i64 .i64 Tryd.underlying22 hi0 1 hsz0 (some ad) f.length c (p : Int) (hi : Int) (by omega) (by omega) (by omega) HCC.out
      rw [Int.toNat_natCast, Int.toNat_natCast, if_neg (by have := HCC.out; omega)] at hcut
      simp only [Option.map_some, Nat.mul_one] at hcut
      obtain ⟨k2, hk2⟩ : ∃ k2, hi - p = k2 := ⟨_, rfl⟩
      obtain ⟨c2', hc2'⟩ : ∃ c2', c - p = c2' := ⟨_, rfl⟩
      rw [hk2, hc2'] at hcut
      obtain ⟨q, hq⟩ : ∃ q, ad.add p = q := ⟨_, rfl⟩
      rw [hq] at hcut
      have HQ := Aside0.mk hq
      have HHI := Aside0.mk hhi
      have HK2 := Aside0.mk hk2
      clear hi0 hsz0 hc2' hq hhi hk2
      go_wp2
      go_quiet (fail)
      all_goals go_wp2
      have HRp := Aside0.mk (show RdAt (wr.drewN nd) R blk (some ad) f.length c (p + 0) (.slice Av d.length cv) o from HR.out)
      clear hcut c0 c1 c2 c3 c4 hmn1
      go_loopg [61] k2 (fun kq v61 wi => ∃ i : Nat, v61 = .int .i64 (i : Int) ∧ k2 ≤ i + kq ∧ i ≤ k2 ∧ Aside0 (RdAt wi R blk (some ad) f.length c (p + i) (.slice Av d.length cv) o) ∧ Aside0 (Chg M Y wi) ∧ Aside0 (Chg (MY R B0 V) W wi) ∧ Aside0 (Kd.R (Kd.int .u8) 5 wi Y.heap.size (fun _ => True) (.slice Av d.length cv) d))
      case atStart => exact ⟨0, rfl, by omega, by omega, ⟨(HR.out.drewN _).drewN _⟩, ⟨HCY.out.trans (by repeat (first | exact Chg.refl _ _ | exact Chg.drewN _ _ _ | refine Chg.trans ?_ (Chg.drewN _ _ _)))⟩, ⟨HCW.out.trans (by repeat (first | exact Chg.refl _ _ | exact Chg.drewN _ _ _ | refine Chg.trans ?_ (Chg.drewN _ _ _)))⟩, ⟨Kd.R_drewN (Kd.R_drewN HD.out _) _⟩⟩
      obtain ⟨i, rfl, hik, hi2, HRi, HCYi, HCWi, HDi⟩ := hrel
      by_cases hlt : i < k2
      · have b5 : decide ((i : Int) < (k2 : Int)) = true := decide_eq_true (by omega)
        have hki := HK2.out
        obtain ⟨ad2, e2, hbyte⟩ := byte_at (Kd.C_below HC.out (HWM.out wr HCWi.out)) (p + i) (by omega) HBY.out
        cases e2
        rw [← addr_add2, HQ.out] at hbyte
        have hxc := HRi.out.c.2.2.1
        have hxf := HRi.out.frozen 2
        have hpb : p + i ≤ f.length := by omega
        have HG := Aside0.mk hik
        clear hik
        rw [Q3.out (p + i) (by omega) (by omega)] at hbyte
        go_wp2
        go_roundg (gk - 1)
        case measure => have := HG.out; omega
        case rel =>
          have hpe : ((p + (i + 1) : Nat) : Int) = (p : Int) + (i : Int) + 1 := by omega
          have hrf := HRi.out.set2 (p + (i + 1))
          have hdf := R_rd HDi.out HRi.out 2 (.int .i64 ((p + (i + 1) : Nat) : Int))
          rw [hpe] at hrf hdf
          have hg := HG.out
          exact ⟨i + 1, by go_num, by omega, by omega, ⟨hrf⟩, ⟨HCYi.out.trans (Chg.set _ _ R 2 _ HMR.out)⟩, ⟨HCWi.out.trans (Chg.set _ _ R 2 _ (.inl rfl))⟩, ⟨hdf⟩⟩
      · obtain rfl : i = k2 := by omega
        have b5 : decide ((i : Int) < (i : Int)) = false := decide_eq_false (by omega)
        have hki := HK2.out
        have hhi2 : p + i = hi := by omega
        rw [hhi2] at HRi
        go_wp2
        go_roundg (G - 1)
        case measure => omega
        case rel => exact ⟨pre, Y, hi, d, .slice Av d.length cv, o, outs', by omega, by omega, HRi, Q4, HOUT, HJY, HCYi, HBY0, HDi, ⟨by have := HDL.out; omega⟩, HCWi⟩
    · -- something else where noughts should stand
      have Q2 := Aside0.mk q3
      have Q3 := Aside0.mk q4
      have Q8 := Aside0.mk q8
      clear q3 q4 q8
      have b3 : decide ((blk : Int) - (pm : Int) < 7) = true := decide_eq_true (by omega)
      obtain ⟨hi, hhi⟩ : ∃ hi, min (p + (blk - pm)) f.length = hi := ⟨_, rfl⟩
      have hhip : p < hi := by omega
      have hhil : hi ≤ f.length := by omega
      have hmn1 : (if (f.length : Int) < (p : Int) + ((blk : Int) - (pm : Int)) then (f.length : Int) else (p : Int) + ((blk : Int) - (pm : Int))) = (hi : Int) := by split <;> omega
      rw [hhi] at q6
      obtain ⟨i1, hi0, _, hsz0, _⟩ := info_parts HI.out
      have hcut := cut_mid (P := Tryd.prog) 22 5 .i64 .i64 Tryd.underlying22 hi0 1 hsz0 (some ad) f.length c (p : Int) (hi : Int) (by omega) (by omega) (by omega) HCC.out
      rw [Int.toNat_natCast, Int.toNat_natCast, if_neg (by have := HCC.out; omega)] at hcut
      simp only [Option.map_some, Nat.mul_one] at hcut
      obtain ⟨k2, hk2⟩ : ∃ k2, hi - p = k2 := ⟨_, rfl⟩
      obtain ⟨c2', hc2'⟩ : ∃ c2', c - p = c2' := ⟨_, rfl⟩
      rw [hk2, hc2'] at hcut
      obtain ⟨q, hq⟩ : ∃ q, ad.add p = q := ⟨_, rfl⟩
      rw [hq] at hcut
      have HQ := Aside0.mk hq
      have HHI := Aside0.mk hhi
      have HK2 := Aside0.mk hk2
      clear hi0 hsz0 hc2' hq hhi hk2
      go_wp2
      go_quiet (fail)
      all_goals go_wp2
      have HRp := Aside0.mk (show RdAt (wr.drewN nd) R blk (some ad) f.length c (p + 0) (.slice Av d.length cv) o from HR.out)
      clear hcut c0 c1 c2 c3 c4 hmn1
      go_loopg [61] k2 (fun kq v61 wi => ∃ i : Nat, v61 = .int .i64 (i : Int) ∧ k2 ≤ i + kq ∧ i ≤ k2 ∧ p + i ≤ i0 ∧ Aside0 (RdAt wi R blk (some ad) f.length c (p + i) (.slice Av d.length cv) o) ∧ Aside0 (Chg M Y wi) ∧ Aside0 (Chg (MY R B0 V) W wi) ∧ Aside0 (Kd.R (Kd.int .u8) 5 wi Y.heap.size (fun _ => True) (.slice Av d.length cv) d))
      case atStart => exact ⟨0, rfl, by omega, by omega, by omega, ⟨(HR.out.drewN _).drewN _⟩, ⟨HCY.out.trans (by repeat (first | exact Chg.refl _ _ | exact Chg.drewN _ _ _ | refine Chg.trans ?_ (Chg.drewN _ _ _)))⟩, ⟨HCW.out.trans (by repeat (first | exact Chg.refl _ _ | exact Chg.drewN _ _ _ | refine Chg.trans ?_ (Chg.drewN _ _ _)))⟩, ⟨Kd.R_drewN (Kd.R_drewN HD.out _) _⟩⟩
      obtain ⟨i, rfl, hik, hi2, hi3, HRi, HCYi, HCWi, HDi⟩ := hrel
      by_cases hlt : i < k2
      · have b5 : decide ((i : Int) < (k2 : Int)) = true := decide_eq_true (by omega)
        have hki := HK2.out
        obtain ⟨ad2, e2, hbyte⟩ := byte_at (Kd.C_below HC.out (HWM.out wr HCWi.out)) (p + i) (by omega) HBY.out
        cases e2
        rw [← addr_add2, HQ.out] at hbyte
        have hxc := HRi.out.c.2.2.1
        have hxf := HRi.out.frozen 2
        have hpb : p + i ≤ f.length := by omega
        have HG := Aside0.mk hik
        clear hik
        by_cases hz : p + i = i0
        · have hne : rdn f (p + i) ≠ 0 := by rw [hz]; exact q7
          obtain ⟨x, hx⟩ : ∃ x, rdn f (p + i) = x := ⟨_, rfl⟩
          rw [hx] at hbyte hne
          have b6 : ((x : Int) != 0) = true := by simp; omega
          have b7 : ((x : Int) == 0) = false := by simp; omega
          go_wp2
          all_goals
            rw [Exit.noGoto_ret]
            go_ret
            exact ⟨HCWi.out, .inl ⟨pre, by rw [Q3.out]; first | rfl | (simp [*]; done), by have := HOUT.out; rw [Q2.out, List.append_nil] at this; exact this, HJ.out _ _ _ HJY.out HCYi.out⟩⟩
        · rw [Q8.out (p + i) (by omega) (by omega)] at hbyte
          go_wp2
          go_roundg (gk - 1)
          case measure => have := HG.out; omega
          case rel =>
            have hpe : ((p + (i + 1) : Nat) : Int) = (p : Int) + (i : Int) + 1 := by omega
            have hrf := HRi.out.set2 (p + (i + 1))
            have hdf := R_rd HDi.out HRi.out 2 (.int .i64 ((p + (i + 1) : Nat) : Int))
            rw [hpe] at hrf hdf
            have hg := HG.out
            exact ⟨i + 1, by go_num, by omega, by omega, by omega, ⟨hrf⟩, ⟨HCYi.out.trans (Chg.set _ _ R 2 _ HMR.out)⟩, ⟨HCWi.out.trans (Chg.set _ _ R 2 _ (.inl rfl))⟩, ⟨hdf⟩⟩
      · exfalso
        have hki := HK2.out
        omega
    · -- no head
      have Q2 := Aside0.mk q4
      have Q3 := Aside0.mk q5
      clear q4 q5
      have b3 : decide ((blk : Int) - (pm : Int) < 7) = false := decide_eq_false (by omega)
      obtain ⟨i0, hi0, _, hsz0, _⟩ := info_parts HI.out
      have hcut := cut_from (P := Tryd.prog) 22 5 .i64 Tryd.underlying22 hi0 1 hsz0 (some ad) f.length c (p : Int) (by omega) (by omega)
      rw [Int.toNat_natCast, if_neg (by have := HCC.out; omega)] at hcut
      simp only [Option.map_some, Nat.mul_one] at hcut
      obtain ⟨m2, hm2⟩ : ∃ m2, f.length - p = m2 := ⟨_, rfl⟩
      obtain ⟨c2', hc2'⟩ : ∃ c2', c - p = c2' := ⟨_, rfl⟩
      rw [hm2, hc2'] at hcut
      have b4 : decide ((m2 : Int) < 7) = true := decide_eq_true (by omega)
      clear hi0 hsz0 hm2 hc2'
      go_wp2
      go_quiet (fail)
      all_goals go_wp2
      all_goals
        rw [Exit.noGoto_ret]
        go_ret
        exact ⟨HCW.out.trans (by repeat (first | exact Chg.refl _ _ | exact Chg.drewN _ _ _ | refine Chg.trans ?_ (Chg.drewN _ _ _))), .inl ⟨pre, by rw [Q3.out]; first | rfl | (simp [*]; done), by have := HOUT.out; rw [Q2.out, List.append_nil] at this; exact this, HJ.out _ _ _ HJY.out (HCY.out.trans (by repeat (first | exact Chg.refl _ _ | exact Chg.drewN _ _ _ | refine Chg.trans ?_ (Chg.drewN _ _ _))))⟩⟩
    · -- no piece
      have Q2 := Aside0.mk q4
      have Q3 := Aside0.mk q5
      clear q4 q5
      have b3 : decide ((blk : Int) - (pm : Int) < 7) = false := decide_eq_false (by omega)
      obtain ⟨i1, hi0, _, hsz0, _⟩ := info_parts HI.out
      have hcut := cut_from (P := Tryd.prog) 22 5 .i64 Tryd.underlying22 hi0 1 hsz0 (some ad) f.length c (p : Int) (by omega) (by omega)
      rw [Int.toNat_natCast, if_neg (by have := HCC.out; omega)] at hcut
      simp only [Option.map_some, Nat.mul_one] at hcut
      obtain ⟨m2, hm2⟩ : ∃ m2, f.length - p = m2 := ⟨_, rfl⟩
      obtain ⟨c2', hc2'⟩ : ∃ c2', c - p = c2' := ⟨_, rfl⟩
      rw [hm2, hc2'] at hcut
      have b4 : decide ((m2 : Int) < 7) = false := decide_eq_false (by omega)
      have z4 : (4 : Int) < (m2 : Int) := by omega
      have z5 : (5 : Int) < (m2 : Int) := by omega
      have z6 : (6 : Int) < (m2 : Int) := by omega
      have y4 : 4 < m2 := by omega
      have y5 : 5 < m2 := by omega
      have y6 : 6 < m2 := by omega
      have HCwr := Kd.C_below HC.out (HWM.out wr HCW.out)
      obtain ⟨ad4, e4, r4⟩ := byte_at HCwr (p + 4) (by omega) HBY.out
      obtain ⟨ad5, e5, r5⟩ := byte_at HCwr (p + 5) (by omega) HBY.out
      obtain ⟨ad6, e6, r6⟩ := byte_at HCwr (p + 6) (by omega) HBY.out
      cases e4; cases e5; cases e6
      have s4 := (rdn_int f (p + 4) HBY.out).2
      have s5 := (rdn_int f (p + 5) HBY.out).2
      have s6 := (rdn_int f (p + 6) HBY.out).2
      have r4' : wr.cell? ((ad.add p).add 4) = some (.int .u8 ((rdn f (p + 4) : Nat) : Int)) := by rw [addr_add2]; exact r4
      have r5' : wr.cell? ((ad.add p).add 5) = some (.int .u8 ((rdn f (p + 5) : Nat) : Int)) := by rw [addr_add2]; exact r5
      have r6' : wr.cell? ((ad.add p).add 6) = some (.int .u8 ((rdn f (p + 6) : Nat) : Int)) := by rw [addr_add2]; exact r6
      obtain ⟨q, hq⟩ : ∃ q, ad.add p = q := ⟨_, rfl⟩
      rw [hq] at hcut r4' r5' r6'
      simp [Addr.add] at r4' r5' r6'
      have HNN := Aside0.mk (show nN f p = rdn f (p + 4) + 256 * rdn f (p + 5) from rfl)
      have hnb : nN f p < 65536 := by have := HNN.out; omega
      obtain ⟨n, hn⟩ : ∃ n, nN f p = n := ⟨_, rfl⟩
      obtain ⟨kd, hkd⟩ : ∃ kd, rdn f (p + 6) = kd := ⟨_, rfl⟩
      obtain ⟨x4, hx4⟩ : ∃ x4, rdn f (p + 4) = x4 := ⟨_, rfl⟩
      obtain ⟨x5, hx5⟩ : ∃ x5, rdn f (p + 5) = x5 := ⟨_, rfl⟩
      have hn3 := HNN.out
      rw [hx4, hx5, hn] at hn3
      rw [hx4] at r4' s4
      rw [hx5] at r5' s5
      rw [hkd] at r6' s6
      rw [hn] at hnb
      rw [hn, hkd] at q3
      have HN3 := Aside0.mk hn3
      have HNV := Aside0.mk hn
      have HKV := Aside0.mk hkd
      have HM2 := Aside0.mk hm2
      have HQ := Aside0.mk hq
      clear hi0 hsz0 hm2 hc2' hx4 hx5 hn hkd hq HNN HCwr r4 r5 r6 hn3
      go_wp2
      go_quiet (fail)
      all_goals go_wp2
      go_quiet (fail)
      all_goals go_wp2
      rw [or_i64 x4 x5 s4 s5, ← HN3.out]
      by_cases k1 : kd < 1
      · skip
        have b5 : decide ((kd : Int) < 1) = true := decide_eq_true (by omega)
        have b5' : decide (kd < 1) = true := decide_eq_true (by omega)
        go_quiet (fail)
        all_goals go_wp2
        all_goals
          rw [Exit.noGoto_ret]
          go_ret
          exact ⟨HCW.out.trans (by repeat (first | exact Chg.refl _ _ | exact Chg.drewN _ _ _ | refine Chg.trans ?_ (Chg.drewN _ _ _))), .inl ⟨pre, by rw [Q3.out]; first | rfl | (simp [*]; done), by have := HOUT.out; rw [Q2.out, List.append_nil] at this; exact this, HJ.out _ _ _ HJY.out (HCY.out.trans (by repeat (first | exact Chg.refl _ _ | exact Chg.drewN _ _ _ | refine Chg.trans ?_ (Chg.drewN _ _ _))))⟩⟩
      · by_cases k2 : 4 < kd
        · skip
          have b5 : decide ((kd : Int) < 1) = false := decide_eq_false (by omega)
          have b6 : decide ((kd : Int) > 4) = true := decide_eq_true (by omega)
          have b6' : decide (4 < kd) = true := decide_eq_true (by omega)
          go_quiet (fail)
          all_goals go_wp2
          all_goals
            rw [Exit.noGoto_ret]
            go_ret
            exact ⟨HCW.out.trans (by repeat (first | exact Chg.refl _ _ | exact Chg.drewN _ _ _ | refine Chg.trans ?_ (Chg.drewN _ _ _))), .inl ⟨pre, by rw [Q3.out]; first | rfl | (simp [*]; done), by have := HOUT.out; rw [Q2.out, List.append_nil] at this; exact this, HJ.out _ _ _ HJY.out (HCY.out.trans (by repeat (first | exact Chg.refl _ _ | exact Chg.drewN _ _ _ | refine Chg.trans ?_ (Chg.drewN _ _ _))))⟩⟩
        · skip
          have b5 : decide ((kd : Int) < 1) = false := decide_eq_false (by omega)
          have b6 : decide ((kd : Int) > 4) = false := decide_eq_false (by omega)
          have b6' : decide (4 < kd) = false := decide_eq_false (by omega)
          have b7 : decide ((n : Int) > (blk : Int) - (pm : Int) - 7) = true := decide_eq_true (by omega)
          have b7' : decide ((blk : Int) - (pm : Int) - 7 < (n : Int)) = true := decide_eq_true (by omega)
          go_quiet (fail)
          all_goals go_wp2
          all_goals
            rw [Exit.noGoto_ret]
            go_ret
            exact ⟨HCW.out.trans (by repeat (first | exact Chg.refl _ _ | exact Chg.drewN _ _ _ | refine Chg.trans ?_ (Chg.drewN _ _ _))), .inl ⟨pre, by rw [Q3.out]; first | rfl | (simp [*]; done), by have := HOUT.out; rw [Q2.out, List.append_nil] at this; exact this, HJ.out _ _ _ HJY.out (HCY.out.trans (by repeat (first | exact Chg.refl _ _ | exact Chg.drewN _ _ _ | refine Chg.trans ?_ (Chg.drewN _ _ _))))⟩⟩
    · -- a piece that is not whole
      have Q2 := Aside0.mk q7
      have Q3 := Aside0.mk q8
      clear q7 q8
      have b3 : decide ((blk : Int) - (pm : Int) < 7) = false := decide_eq_false (by omega)
      obtain ⟨i1, hi0, _, hsz0, _⟩ := info_parts HI.out
      have hcut := cut_from (P := Tryd.prog) 22 5 .i64 Tryd.underlying22 hi0 1 hsz0 (some ad) f.length c (p : Int) (by omega) (by omega)
      rw [Int.toNat_natCast, if_neg (by have := HCC.out; omega)] at hcut
      simp only [Option.map_some, Nat.mul_one] at hcut
      obtain ⟨m2, hm2⟩ : ∃ m2, f.length - p = m2 := ⟨_, rfl⟩
      obtain ⟨c2', hc2'⟩ : ∃ c2', c - p = c2' := ⟨_, rfl⟩
      rw [hm2, hc2'] at hcut
      have b4 : decide ((m2 : Int) < 7) = false := decide_eq_false (by omega)
      have z4 : (4 : Int) < (m2 : Int) := by omega
      have z5 : (5 : Int) < (m2 : Int) := by omega
      have z6 : (6 : Int) < (m2 : Int) := by omega
      have y4 : 4 < m2 := by omega
      have y5 : 5 < m2 := by omega
      have y6 : 6 < m2 := by omega
      have HCwr := Kd.C_below HC.out (HWM.out wr HCW.out)
      obtain ⟨ad4, e4, r4⟩ := byte_at HCwr (p + 4) (by omega) HBY.out
      obtain ⟨ad5, e5, r5⟩ := byte_at HCwr (p + 5) (by omega) HBY.out
      obtain ⟨ad6, e6, r6⟩ := byte_at HCwr (p + 6) (by omega) HBY.out
      cases e4; cases e5; cases e6
      have s4 := (rdn_int f (p + 4) HBY.out).2
      have s5 := (rdn_int f (p + 5) HBY.out).2
      have s6 := (rdn_int f (p + 6) HBY.out).2
      have r4' : wr.cell? ((ad.add p).add 4) = some (.int .u8 ((rdn f (p + 4) : Nat) : Int)) := by rw [addr_add2]; exact r4
      have r5' : wr.cell? ((ad.add p).add 5) = some (.int .u8 ((rdn f (p + 5) : Nat) : Int)) := by rw [addr_add2]; exact r5
      have r6' : wr.cell? ((ad.add p).add 6) = some (.int .u8 ((rdn f (p + 6) : Nat) : Int)) := by rw [addr_add2]; exact r6
      obtain ⟨q, hq⟩ : ∃ q, ad.add p = q := ⟨_, rfl⟩
      rw [hq] at hcut r4' r5' r6'
      simp [Addr.add] at r4' r5' r6'
      have HNN := Aside0.mk (show nN f p = rdn f (p + 4) + 256 * rdn f (p + 5) from rfl)
      have hnb : nN f p < 65536 := by have := HNN.out; omega
      obtain ⟨n, hn⟩ : ∃ n, nN f p = n := ⟨_, rfl⟩
      obtain ⟨kd, hkd⟩ : ∃ kd, rdn f (p + 6) = kd := ⟨_, rfl⟩
      obtain ⟨x4, hx4⟩ : ∃ x4, rdn f (p + 4) = x4 := ⟨_, rfl⟩
      obtain ⟨x5, hx5⟩ : ∃ x5, rdn f (p + 5) = x5 := ⟨_, rfl⟩
      have hn3 := HNN.out
      rw [hx4, hx5, hn] at hn3
      rw [hx4] at r4' s4
      rw [hx5] at r5' s5
      rw [hkd] at r6' s6
      rw [hn] at hnb
      rw [hkd] at q3 q4
      rw [hn] at q5 q6
      have HN3 := Aside0.mk hn3
      have HNV := Aside0.mk hn
      have HKV := Aside0.mk hkd
      have HM2 := Aside0.mk hm2
      have HQ := Aside0.mk hq
      clear hi0 hsz0 hm2 hc2' hx4 hx5 hn hkd hq HNN HCwr r4 r5 r6 hn3
      go_wp2
      go_quiet (fail)
      all_goals go_wp2
      go_quiet (fail)
      all_goals go_wp2
      rw [or_i64 x4 x5 s4 s5, ← HN3.out]
      have b5 : decide ((kd : Int) < 1) = false := decide_eq_false (by omega)
      have b5' : (kd == 0) = false := by simp; omega
      have b6 : decide ((kd : Int) > 4) = false := decide_eq_false (by omega)
      have b6' : decide (4 < kd) = false := decide_eq_false (by omega)
      have b7 : decide ((n : Int) > (blk : Int) - (pm : Int) - 7) = false := decide_eq_false (by omega)
      have b7' : decide ((blk : Int) - (pm : Int) - 7 < (n : Int)) = false := decide_eq_false (by omega)
      have b8 : decide ((m2 : Int) < 7 + (n : Int)) = true := decide_eq_true (by have := HM2.out; omega)
      go_quiet (fail)
      all_goals go_wp2
      all_goals
        rw [Exit.noGoto_ret]
        go_ret
        exact ⟨HCW.out.trans (by repeat (first | exact Chg.refl _ _ | exact Chg.drewN _ _ _ | refine Chg.trans ?_ (Chg.drewN _ _ _))), .inl ⟨pre, by rw [Q3.out]; first | rfl | (simp [*]; done), by have := HOUT.out; rw [Q2.out, List.append_nil] at this; exact this, HJ.out _ _ _ HJY.out (HCY.out.trans (by repeat (first | exact Chg.refl _ _ | exact Chg.drewN _ _ _ | refine Chg.trans ?_ (Chg.drewN _ _ _))))⟩⟩
    · -- a piece that can't come here
      have Q2 := Aside0.mk q7
      have Q3 := Aside0.mk q8
      have Q6 := Aside0.mk q6
      clear q6 q7 q8
      have b3 : decide ((blk : Int) - (pm : Int) < 7) = false := decide_eq_false (by omega)
      obtain ⟨i1, hi0, _, hsz0, _⟩ := info_parts HI.out
      have hcut := cut_from (P := Tryd.prog) 22 5 .i64 Tryd.underlying22 hi0 1 hsz0 (some ad) f.length c (p : Int) (by omega) (by omega)
      rw [Int.toNat_natCast, if_neg (by have := HCC.out; omega)] at hcut
      simp only [Option.map_some, Nat.mul_one] at hcut
      obtain ⟨m2, hm2⟩ : ∃ m2, f.length - p = m2 := ⟨_, rfl⟩
      obtain ⟨c2', hc2'⟩ : ∃ c2', c - p = c2' := ⟨_, rfl⟩
      rw [hm2, hc2'] at hcut
      have b4 : decide ((m2 : Int) < 7) = false := decide_eq_false (by omega)
      have z4 : (4 : Int) < (m2 : Int) := by omega
      have z5 : (5 : Int) < (m2 : Int) := by omega
      have z6 : (6 : Int) < (m2 : Int) := by omega
      have y4 : 4 < m2 := by omega
      have y5 : 5 < m2 := by omega
      have y6 : 6 < m2 := by omega
      have HCwr := Kd.C_below HC.out (HWM.out wr HCW.out)
      obtain ⟨ad4, e4, r4⟩ := byte_at HCwr (p + 4) (by omega) HBY.out
      obtain ⟨ad5, e5, r5⟩ := byte_at HCwr (p + 5) (by omega) HBY.out
      obtain ⟨ad6, e6, r6⟩ := byte_at HCwr (p + 6) (by omega) HBY.out
      cases e4; cases e5; cases e6
      have s4 := (rdn_int f (p + 4) HBY.out).2
      have s5 := (rdn_int f (p + 5) HBY.out).2
      have s6 := (rdn_int f (p + 6) HBY.out).2
      have r4' : wr.cell? ((ad.add p).add 4) = some (.int .u8 ((rdn f (p + 4) : Nat) : Int)) := by rw [addr_add2]; exact r4
      have r5' : wr.cell? ((ad.add p).add 5) = some (.int .u8 ((rdn f (p + 5) : Nat) : Int)) := by rw [addr_add2]; exact r5
      have r6' : wr.cell? ((ad.add p).add 6) = some (.int .u8 ((rdn f (p + 6) : Nat) : Int)) := by rw [addr_add2]; exact r6
      obtain ⟨q, hq⟩ : ∃ q, ad.add p = q := ⟨_, rfl⟩
      rw [hq] at hcut r4' r5' r6'
      simp [Addr.add] at r4' r5' r6'
      have HNN := Aside0.mk (show nN f p = rdn f (p + 4) + 256 * rdn f (p + 5) from rfl)
      have hnb : nN f p < 65536 := by have := HNN.out; omega
      obtain ⟨n, hn⟩ : ∃ n, nN f p = n := ⟨_, rfl⟩
      obtain ⟨kd, hkd⟩ : ∃ kd, rdn f (p + 6) = kd := ⟨_, rfl⟩
      obtain ⟨x4, hx4⟩ : ∃ x4, rdn f (p + 4) = x4 := ⟨_, rfl⟩
      obtain ⟨x5, hx5⟩ : ∃ x5, rdn f (p + 5) = x5 := ⟨_, rfl⟩
      have hn3 := HNN.out
      rw [hx4, hx5, hn] at hn3
      rw [hx4] at r4' s4
      rw [hx5] at r5' s5
      rw [hkd] at r6' s6
      rw [hn] at hnb
      rw [hkd] at q3 q4
      rw [hn] at q1 q5
      have HN3 := Aside0.mk hn3
      have HNV := Aside0.mk hn
      have HKV := Aside0.mk hkd
      have HM2 := Aside0.mk hm2
      have HQ := Aside0.mk hq
      have HC2 := Aside0.mk hc2'
      clear hi0 hsz0 hm2 hc2' hx4 hx5 hn hkd hq HNN HCwr r4 r5 r6 hn3
      go_wp2
      go_quiet (fail)
      all_goals go_wp2
      go_quiet (fail)
      all_goals go_wp2
      rw [or_i64 x4 x5 s4 s5, ← HN3.out]
      have b5 : decide ((kd : Int) < 1) = false := decide_eq_false (by omega)
      have b5' : (kd == 0) = false := by simp; omega
      have b6 : decide ((kd : Int) > 4) = false := decide_eq_false (by omega)
      have b6' : decide (4 < kd) = false := decide_eq_false (by omega)
      have b7 : decide ((n : Int) > (blk : Int) - (pm : Int) - 7) = false := decide_eq_false (by omega)
      have b7' : decide ((blk : Int) - (pm : Int) - 7 < (n : Int)) = false := decide_eq_false (by omega)
      have hq2 := HM2.out
      have b8 : decide ((m2 : Int) < 7 + (n : Int)) = false := decide_eq_false (by omega)
      obtain ⟨i2, hi2, _, hsz2, _⟩ := info_parts HI.out
      have hmc : m2 ≤ c2' := by have := HCC.out; have := HC2.out; omega
      have hcutd := cut_mid (P := Tryd.prog) 22 5 .i64 .i64 Tryd.underlying22 hi2 1 hsz2 (some q) m2 c2' 7 (7 + (n : Int)) (by omega) (by omega) (by omega) hmc
      obtain ⟨Ad, hAd⟩ : ∃ Ad, (if c2' = 7 then some q else (some q).map (·.add (7 * 1))) = Ad := ⟨_, rfl⟩
      have hcd2 : n ≤ c2' - 7 := by omega
      have hdt : Kd.C (Kd.int .u8) wf Ad n (dataN f p) := by
        have hd1 := Kd.C_drop HC.out (show p ≤ f.length by omega) HCC.out
        rw [if_neg (show ¬ c = p by have := HCC.out; omega)] at hd1
        rw [show (some ad).map (·.add (p * (Kd.int .u8).sz)) = some q by rw [← HQ.out]; show some (ad.add (p * 1)) = _; rw [Nat.mul_one]] at hd1
        have hd2 := Kd.C_mid (lo := 7) (hi := 7 + n) hd1 (by omega) (by rw [List.length_drop]; omega) (show (f.drop p).length ≤ c2' by rw [List.length_drop]; omega)
        rw [data_cut] at hd2
        have hd3 : ((f.drop (p + 7)).take n).length = n := by rw [List.length_take, List.length_drop]; omega
        rw [hd3] at hd2
        unfold dataN
        rw [HNV.out, ← hAd]
        exact hd2
      have HDT := Aside0.mk hdt
      rw [show ((7 : Int) + (n : Int)).toNat - (7 : Int).toNat = n by omega, show (7 : Int).toNat = 7 from rfl, hAd] at hcutd
      have HBC := Aside0.mk (fun W' (hW : Chg (MY R B0 V) W W') (hr : RdAt W' R blk (some ad) f.length c p (.slice Av d.length cv) o) => bent_calls R blk (some ad) c p f d (.slice Av d.length cv) o Ad (c2' - 7) W' hr (Kd.C_below HC.out (HWM.out W' hW)) HCC.out HBY.out HLEN.out (by rw [HNV.out]; omega) Av cv rfl (by have := HDL.out; have := HLEN.out; omega) (by rw [HNV.out]; exact Kd.C_below HDT.out (HWM.out W' hW)) (by rw [HNV.out]; exact hcd2) (HT.out.below (HWM.out W' hW)))
      rw [HNV.out, HKV.out] at HBC
      clear hi2 hsz2 hAd hdt
      go_quiet (fail)
      all_goals go_wp2_with fail
      (with_reducible refine (HBC.out _ (HCW.out.trans (by repeat (first | exact Chg.refl _ _ | exact Chg.drewN _ _ _ | refine Chg.trans ?_ (Chg.drewN _ _ _)))) (by exact HR.out.drewN _)).mono ?_)
      rintro e w5 ⟨rfl, hb⟩
      have HB5 := Aside0.mk hb
      clear hb
      rw [Q6.out]
      go_wp2
      all_goals
        rw [Exit.noGoto_ret]
        go_ret
        exact ⟨HCW.out.trans (by repeat (first | exact Chg.refl _ _ | exact Chg.drewN _ _ _ | exact Chg.below HB5.out | refine Chg.trans ?_ (Chg.below HB5.out) | refine Chg.trans ?_ (Chg.drewN _ _ _))), .inl ⟨pre, by rw [Q3.out]; first | rfl | (simp [*]; done), by have := HOUT.out; rw [Q2.out, List.append_nil] at this; exact this, HJ.out _ _ _ HJY.out (HCY.out.trans (by repeat (first | exact Chg.refl _ _ | exact Chg.drewN _ _ _ | exact Chg.below HB5.out | refine Chg.trans ?_ (Chg.below HB5.out) | refine Chg.trans ?_ (Chg.drewN _ _ _))))⟩⟩
    · -- a piece behind which more of the record comes
      have Q4 := Aside0.mk q4
      have Q6 := Aside0.mk q6
      clear q4 q6
      have b3 : decide ((blk : Int) - (pm : Int) < 7) = false := decide_eq_false (by omega)
      obtain ⟨i1, hi0, _, hsz0, _⟩ := info_parts HI.out
      have hcut := cut_from (P := Tryd.prog) 22 5 .i64 Tryd.underlying22 hi0 1 hsz0 (some ad) f.length c (p : Int) (by omega) (by omega)
      rw [Int.toNat_natCast, if_neg (by have := HCC.out; omega)] at hcut
      simp only [Option.map_some, Nat.mul_one] at hcut
      obtain ⟨m2, hm2⟩ : ∃ m2, f.length - p = m2 := ⟨_, rfl⟩
      obtain ⟨c2', hc2'⟩ : ∃ c2', c - p = c2' := ⟨_, rfl⟩
      rw [hm2, hc2'] at hcut
      have b4 : decide ((m2 : Int) < 7) = false := decide_eq_false (by omega)
      have z4 : (4 : Int) < (m2 : Int) := by omega
      have z5 : (5 : Int) < (m2 : Int) := by omega
      have z6 : (6 : Int) < (m2 : Int) := by omega
      have y4 : 4 < m2 := by omega
      have y5 : 5 < m2 := by omega
      have y6 : 6 < m2 := by omega
      have HCwr := Kd.C_below HC.out (HWM.out wr HCW.out)
      obtain ⟨ad4, e4, r4⟩ := byte_at HCwr (p + 4) (by omega) HBY.out
      obtain ⟨ad5, e5, r5⟩ := byte_at HCwr (p + 5) (by omega) HBY.out
      obtain ⟨ad6, e6, r6⟩ := byte_at HCwr (p + 6) (by omega) HBY.out
      cases e4; cases e5; cases e6
      have s4 := (rdn_int f (p + 4) HBY.out).2
      have s5 := (rdn_int f (p + 5) HBY.out).2
      have s6 := (rdn_int f (p + 6) HBY.out).2
      have r4' : wr.cell? ((ad.add p).add 4) = some (.int .u8 ((rdn f (p + 4) : Nat) : Int)) := by rw [addr_add2]; exact r4
      have r5' : wr.cell? ((ad.add p).add 5) = some (.int .u8 ((rdn f (p + 5) : Nat) : Int)) := by rw [addr_add2]; exact r5
      have r6' : wr.cell? ((ad.add p).add 6) = some (.int .u8 ((rdn f (p + 6) : Nat) : Int)) := by rw [addr_add2]; exact r6
      obtain ⟨q, hq⟩ : ∃ q, ad.add p = q := ⟨_, rfl⟩
      rw [hq] at hcut r4' r5' r6'
      simp [Addr.add] at r4' r5' r6'
      have HNN := Aside0.mk (show nN f p = rdn f (p + 4) + 256 * rdn f (p + 5) from rfl)
      have hnb : nN f p < 65536 := by have := HNN.out; omega
      obtain ⟨n, hn⟩ : ∃ n, nN f p = n := ⟨_, rfl⟩
      obtain ⟨kd, hkd⟩ : ∃ kd, rdn f (p + 6) = kd := ⟨_, rfl⟩
      obtain ⟨x4, hx4⟩ : ∃ x4, rdn f (p + 4) = x4 := ⟨_, rfl⟩
      obtain ⟨x5, hx5⟩ : ∃ x5, rdn f (p + 5) = x5 := ⟨_, rfl⟩
      have hn3 := HNN.out
      rw [hx4, hx5, hn] at hn3
      rw [hx4] at r4' s4
      rw [hx5] at r5' s5
      rw [hkd] at r6' s6
      rw [hn] at hnb
      rw [hkd] at q5
      rw [hn] at q1 q3
      rw [hn] at Q6
      have HN3 := Aside0.mk hn3
      have HNV := Aside0.mk hn
      have HKV := Aside0.mk hkd
      have HM2 := Aside0.mk hm2
      have HQ := Aside0.mk hq
      have HC2 := Aside0.mk hc2'
      clear hi0 hsz0 hm2 hc2' hx4 hx5 hn hkd hq HNN HCwr r4 r5 r6 hn3
      go_wp2
      go_quiet (fail)
      all_goals go_wp2
      go_quiet (fail)
      all_goals go_wp2
      rw [or_i64 x4 x5 s4 s5, ← HN3.out]
      have b5 : decide ((kd : Int) < 1) = false := decide_eq_false (by omega)
      have b5' : (kd == 0) = false := by simp; omega
      have b6 : decide ((kd : Int) > 4) = false := decide_eq_false (by omega)
      have b6' : decide (4 < kd) = false := decide_eq_false (by omega)
      have b7 : decide ((n : Int) > (blk : Int) - (pm : Int) - 7) = false := decide_eq_false (by omega)
      have b7' : decide ((blk : Int) - (pm : Int) - 7 < (n : Int)) = false := decide_eq_false (by omega)
      have hq2 := HM2.out
      have b8 : decide ((m2 : Int) < 7 + (n : Int)) = false := decide_eq_false (by omega)
      obtain ⟨i2, hi2, _, hsz2, _⟩ := info_parts HI.out
      have hmc : m2 ≤ c2' := by have := HCC.out; have := HC2.out; omega
      have hcutd := cut_mid (P := Tryd.prog) 22 5 .i64 .i64 Tryd.underlying22 hi2 1 hsz2 (some q) m2 c2' 7 (7 + (n : Int)) (by omega) (by omega) (by omega) hmc
      obtain ⟨Ad, hAd⟩ : ∃ Ad, (if c2' = 7 then some q else (some q).map (·.add (7 * 1))) = Ad := ⟨_, rfl⟩
      have hcd2 : n ≤ c2' - 7 := by omega
      have hdt : Kd.C (Kd.int .u8) wf Ad n (dataN f p) := by
        have hd1 := Kd.C_drop HC.out (show p ≤ f.length by omega) HCC.out
        rw [if_neg (show ¬ c = p by have := HCC.out; omega)] at hd1
        rw [show (some ad).map (·.add (p * (Kd.int .u8).sz)) = some q by rw [← HQ.out]; show some (ad.add (p * 1)) = _; rw [Nat.mul_one]] at hd1
        have hd2 := Kd.C_mid (lo := 7) (hi := 7 + n) hd1 (by omega) (by rw [List.length_drop]; omega) (show (f.drop p).length ≤ c2' by rw [List.length_drop]; omega)
        rw [data_cut] at hd2
        have hd3 : ((f.drop (p + 7)).take n).length = n := by rw [List.length_take, List.length_drop]; omega
        rw [hd3] at hd2
        unfold dataN
        rw [HNV.out, ← hAd]
        exact hd2
      have HDT := Aside0.mk hdt
      rw [show ((7 : Int) + (n : Int)).toNat - (7 : Int).toNat = n by omega, show (7 : Int).toNat = 7 from rfl, hAd] at hcutd
      have HBC := Aside0.mk (fun W' (hW : Chg (MY R B0 V) W W') (hr : RdAt W' R blk (some ad) f.length c p (.slice Av d.length cv) o) => bent_calls R blk (some ad) c p f d (.slice Av d.length cv) o Ad (c2' - 7) W' hr (Kd.C_below HC.out (HWM.out W' hW)) HCC.out HBY.out HLEN.out (by rw [HNV.out]; omega) Av cv rfl (by have := HDL.out; have := HLEN.out; omega) (by rw [HNV.out]; exact Kd.C_below HDT.out (HWM.out W' hW)) (by rw [HNV.out]; exact hcd2) (HT.out.below (HWM.out W' hW)))
      rw [HNV.out, HKV.out] at HBC
      clear hi2 hsz2 hAd hdt
      go_quiet (fail)
      all_goals go_wp2_with fail
      (with_reducible refine (HBC.out _ (HCW.out.trans (by repeat (first | exact Chg.refl _ _ | exact Chg.drewN _ _ _ | refine Chg.trans ?_ (Chg.drewN _ _ _)))) (by exact HR.out.drewN _)).mono ?_)
      rintro e w5 ⟨rfl, hb⟩
      have HB5 := Aside0.mk hb
      clear hb
      rw [Q4.out]
      have HR5 := Aside0.mk ((HR.out.drewN _).below HB5.out)
      have HCY5 := Aside0.mk (show Chg M Y w5 from HCY.out.trans (by repeat (first | exact Chg.refl _ _ | exact Chg.drewN _ _ _ | exact Chg.below HB5.out | refine Chg.trans ?_ (Chg.below HB5.out) | refine Chg.trans ?_ (Chg.drewN _ _ _))))
      have HCW5 := Aside0.mk (show Chg (MY R B0 V) W w5 from HCW.out.trans (by repeat (first | exact Chg.refl _ _ | exact Chg.drewN _ _ _ | exact Chg.below HB5.out | refine Chg.trans ?_ (Chg.below HB5.out) | refine Chg.trans ?_ (Chg.drewN _ _ _))))
      have HD5 := Aside0.mk (show Kd.R (Kd.int .u8) 5 w5 Y.heap.size (fun _ => True) (.slice Av d.length cv) d from Kd.R_below (Kd.R_drewN HD.out _) HB5.out)
      have hy := HR5.out.c
      have hy0 := hy.1
      have hy1 := hy.2.1
      have hy2 := hy.2.2.1
      have hy3 := hy.2.2.2.1
      have hy4 := hy.2.2.2.2
      clear hy c0 c1 c2 c3 c4 r4' r5' r6' hcut hcutd
      have h7 : (dataN f p).length ≤ n := by unfold dataN; rw [List.length_take, HNV.out]; exact Nat.min_le_left _ _
      have HDN := Aside0.mk (show (d ++ dataN f p).length ≤ p + 7 + n by rw [List.length_append]; have := HDL.out; omega)
      clear h7
      obtain ⟨d2, hd2⟩ : ∃ d2, d ++ dataN f p = d2 := ⟨_, rfl⟩
      have HDD := Aside0.mk hd2
      rw [hd2] at HDN Q6
      clear hd2
      have e23 : (((kd : Int) == 2) = true ∧ True) ∨ (((kd : Int) == 2) = false ∧ ((kd : Int) == 3) = true) := by
        rcases q5 with h | h
        · exact .inl ⟨by simp; omega, trivial⟩
        · exact .inr ⟨by simp; omega, by simp; omega⟩
      rcases e23 with ⟨e2, _⟩ | ⟨e2, e3⟩
      all_goals
        go_wp2_with (first
          | ((with_reducible refine gate_builtin (b := .append) (xs := #[.tmp 142, .tmp 143]) rfl ?_); at_builtin; refine Kd.R_append_rows (Kd.int .u8) (w0 := w5) Y.heap.size rfl (.tmp 142) (.tmp 143) 22 5 (.int .u8 0) 1 rfl Tryd.underlying22 HI.out rfl (by decide) (by omega) (.slice Av d.length cv) d (dataN f p) Ad n (c2' - 7) (fun _ => True) (fun _ => False) rfl rfl ?aO ?aR (fun _ _ h => h) (fun _ h => h.elim) (fun _ _ => trivial) (Below.refl _ _) ?aS ?aL ?_; (case aO => exact HD5.out); (case aR => exact Kd.C_below HDT.out (HWM.out w5 HCW5.out)); (case aS => exact HCY5.out.size); (case aL => have := HDL.out; have := HLEN.out; omega); intro v6 w6 ho hb hg hat; rw [HDD.out] at ho; have HD6 := Aside0.mk ho; have HR6 := Aside0.mk (show RdAt w6 R blk (some ad) f.length c p (.slice Av d.length cv) o from (hg.block R (blk_lt HR5.out) (Kd.R_ne HD5.out HR5.out (by decide))).trans HR5.out); have HCY6 := Aside0.mk (chg_grown HCY5.out hg (Kd.R_base HD5.out)); have HCW6 := Aside0.mk (HCW5.out.trans (Chg.grown hg (fun k e => .inr (.inr (Nat.le_trans HBY0.out (Kd.R_base HD5.out k e)))))); obtain ⟨A6, c6, rfl⟩ := Kd.R_slice HD6.out; have hx := HR6.out.c; have hx0 := hx.1; have hx1 := hx.2.1; have hx2 := hx.2.2.1; have hx3 := hx.2.2.2.1; have hx4 := hx.2.2.2.2; have hf2 := HR6.out.frozen 2; have hf3 := HR6.out.frozen 3; have hf4 := HR6.out.frozen 4; clear ho hb hg hat hx))
        go_roundg (G - 1)
        case measure => omega
        case rel =>
          have hpe : ((p + 7 + n : Nat) : Int) = (p : Int) + (7 + (n : Int)) := by omega
          have hrf := ((HR6.out.set3 (.slice A6 d2.length c6) rfl).set2 (p + 7 + n)).set4 true
          have hdf := R_rd (R_rd (R_rd HD6.out HR6.out 3 (.slice A6 d2.length c6)) (HR6.out.set3 (.slice A6 d2.length c6) rfl) 2 (.int .i64 ((p + 7 + n : Nat) : Int))) ((HR6.out.set3 (.slice A6 d2.length c6) rfl).set2 (p + 7 + n)) 4 (.bool true)
          rw [hpe] at hrf hdf
          have q1' := HNV.out
          have q6' := Q6.out
          refine ⟨pre, Y, p + 7 + n, d2, .slice A6 d2.length c6, true, outs', by omega, by omega, ⟨hrf⟩, Q6, HOUT, HJY, ⟨((HCY6.out.trans (Chg.set _ _ R 3 _ HMR.out)).trans (Chg.set _ _ R 2 _ HMR.out)).trans (Chg.set _ _ R 4 _ HMR.out)⟩, HBY0, ⟨hdf⟩, HDN, ⟨((HCW6.out.trans (Chg.set _ _ R 3 _ (.inl rfl))).trans (Chg.set _ _ R 2 _ (.inl rfl))).trans (Chg.set _ _ R 4 _ (.inl rfl))⟩⟩
    · -- a record's last piece
      have Q4 := Aside0.mk q4
      have Q6 := Aside0.mk q6
      have Q7 := Aside0.mk q7
      clear q4 q6 q7
      have b3 : decide ((blk : Int) - (pm : Int) < 7) = false := decide_eq_false (by omega)
      obtain ⟨i1, hi0, _, hsz0, _⟩ := info_parts HI.out
      have hcut := cut_from (P := Tryd.prog) 22 5 .i64 Tryd.underlying22 hi0 1 hsz0 (some ad) f.length c (p : Int) (by omega) (by omega)
      rw [Int.toNat_natCast, if_neg (by have := HCC.out; omega)] at hcut
      simp only [Option.map_some, Nat.mul_one] at hcut
      obtain ⟨m2, hm2⟩ : ∃ m2, f.length - p = m2 := ⟨_, rfl⟩
      obtain ⟨c2', hc2'⟩ : ∃ c2', c - p = c2' := ⟨_, rfl⟩
      rw [hm2, hc2'] at hcut
      have b4 : decide ((m2 : Int) < 7) = false := decide_eq_false (by omega)
      have z4 : (4 : Int) < (m2 : Int) := by omega
      have z5 : (5 : Int) < (m2 : Int) := by omega
      have z6 : (6 : Int) < (m2 : Int) := by omega
      have y4 : 4 < m2 := by omega
      have y5 : 5 < m2 := by omega
      have y6 : 6 < m2 := by omega
      have HCwr := Kd.C_below HC.out (HWM.out wr HCW.out)
      obtain ⟨ad4, e4, r4⟩ := byte_at HCwr (p + 4) (by omega) HBY.out
      obtain ⟨ad5, e5, r5⟩ := byte_at HCwr (p + 5) (by omega) HBY.out
      obtain ⟨ad6, e6, r6⟩ := byte_at HCwr (p + 6) (by omega) HBY.out
      cases e4; cases e5; cases e6
      have s4 := (rdn_int f (p + 4) HBY.out).2
      have s5 := (rdn_int f (p + 5) HBY.out).2
      have s6 := (rdn_int f (p + 6) HBY.out).2
      have r4' : wr.cell? ((ad.add p).add 4) = some (.int .u8 ((rdn f (p + 4) : Nat) : Int)) := by rw [addr_add2]; exact r4
      have r5' : wr.cell? ((ad.add p).add 5) = some (.int .u8 ((rdn f (p + 5) : Nat) : Int)) := by rw [addr_add2]; exact r5
      have r6' : wr.cell? ((ad.add p).add 6) = some (.int .u8 ((rdn f (p + 6) : Nat) : Int)) := by rw [addr_add2]; exact r6
      obtain ⟨q, hq⟩ : ∃ q, ad.add p = q := ⟨_, rfl⟩
      rw [hq] at hcut r4' r5' r6'
      simp [Addr.add] at r4' r5' r6'
      have HNN := Aside0.mk (show nN f p = rdn f (p + 4) + 256 * rdn f (p + 5) from rfl)
      have hnb : nN f p < 65536 := by have := HNN.out; omega
      obtain ⟨n, hn⟩ : ∃ n, nN f p = n := ⟨_, rfl⟩
      obtain ⟨kd, hkd⟩ : ∃ kd, rdn f (p + 6) = kd := ⟨_, rfl⟩
      obtain ⟨x4, hx4⟩ : ∃ x4, rdn f (p + 4) = x4 := ⟨_, rfl⟩
      obtain ⟨x5, hx5⟩ : ∃ x5, rdn f (p + 5) = x5 := ⟨_, rfl⟩
      have hn3 := HNN.out
      rw [hx4, hx5, hn] at hn3
      rw [hx4] at r4' s4
      rw [hx5] at r5' s5
      rw [hkd] at r6' s6
      rw [hn] at hnb
      rw [hkd] at q5
      rw [hn] at q1 q3
      rw [hn] at Q6 Q7
      have HN3 := Aside0.mk hn3
      have HNV := Aside0.mk hn
      have HKV := Aside0.mk hkd
      have HM2 := Aside0.mk hm2
      have HQ := Aside0.mk hq
      have HC2 := Aside0.mk hc2'
      clear hi0 hsz0 hm2 hc2' hx4 hx5 hn hkd hq HNN HCwr r4 r5 r6 hn3
      go_wp2
      go_quiet (fail)
      all_goals go_wp2
      go_quiet (fail)
      all_goals go_wp2
      rw [or_i64 x4 x5 s4 s5, ← HN3.out]
      have b5 : decide ((kd : Int) < 1) = false := decide_eq_false (by omega)
      have b5' : (kd == 0) = false := by simp; omega
      have b6 : decide ((kd : Int) > 4) = false := decide_eq_false (by omega)
      have b6' : decide (4 < kd) = false := decide_eq_false (by omega)
      have b7 : decide ((n : Int) > (blk : Int) - (pm : Int) - 7) = false := decide_eq_false (by omega)
      have b7' : decide ((blk : Int) - (pm : Int) - 7 < (n : Int)) = false := decide_eq_false (by omega)
      have hq2 := HM2.out
      have b8 : decide ((m2 : Int) < 7 + (n : Int)) = false := decide_eq_false (by omega)
      obtain ⟨i2, hi2, _, hsz2, _⟩ := info_parts HI.out
      have hmc : m2 ≤ c2' := by have := HCC.out; have := HC2.out; omega
      have hcutd := cut_mid (P := Tryd.prog) 22 5 .i64 .i64 Tryd.underlying22 hi2 1 hsz2 (some q) m2 c2' 7 (7 + (n : Int)) (by omega) (by omega) (by omega) hmc
      obtain ⟨Ad, hAd⟩ : ∃ Ad, (if c2' = 7 then some q else (some q).map (·.add (7 * 1))) = Ad := ⟨_, rfl⟩
      have hcd2 : n ≤ c2' - 7 := by omega
      have hdt : Kd.C (Kd.int .u8) wf Ad n (dataN f p) := by
        have hd1 := Kd.C_drop HC.out (show p ≤ f.length by omega) HCC.out
        rw [if_neg (show ¬ c = p by have := HCC.out; omega)] at hd1
        rw [show (some ad).map (·.add (p * (Kd.int .u8).sz)) = some q by rw [← HQ.out]; show some (ad.add (p * 1)) = _; rw [Nat.mul_one]] at hd1
        have hd2 := Kd.C_mid (lo := 7) (hi := 7 + n) hd1 (by omega) (by rw [List.length_drop]; omega) (show (f.drop p).length ≤ c2' by rw [List.length_drop]; omega)
        rw [data_cut] at hd2
        have hd3 : ((f.drop (p + 7)).take n).length = n := by rw [List.length_take, List.length_drop]; omega
        rw [hd3] at hd2
        unfold dataN
        rw [HNV.out, ← hAd]
        exact hd2
      have HDT := Aside0.mk hdt
      rw [show ((7 : Int) + (n : Int)).toNat - (7 : Int).toNat = n by omega, show (7 : Int).toNat = 7 from rfl, hAd] at hcutd
      have HBC := Aside0.mk (fun W' (hW : Chg (MY R B0 V) W W') (hr : RdAt W' R blk (some ad) f.length c p (.slice Av d.length cv) o) => bent_calls R blk (some ad) c p f d (.slice Av d.length cv) o Ad (c2' - 7) W' hr (Kd.C_below HC.out (HWM.out W' hW)) HCC.out HBY.out HLEN.out (by rw [HNV.out]; omega) Av cv rfl (by have := HDL.out; have := HLEN.out; omega) (by rw [HNV.out]; exact Kd.C_below HDT.out (HWM.out W' hW)) (by rw [HNV.out]; exact hcd2) (HT.out.below (HWM.out W' hW)))
      rw [HNV.out, HKV.out] at HBC
      clear hi2 hsz2 hAd hdt
      go_quiet (fail)
      all_goals go_wp2_with fail
      (with_reducible refine (HBC.out _ (HCW.out.trans (by repeat (first | exact Chg.refl _ _ | exact Chg.drewN _ _ _ | refine Chg.trans ?_ (Chg.drewN _ _ _)))) (by exact HR.out.drewN _)).mono ?_)
      rintro e w5 ⟨rfl, hb⟩
      have HB5 := Aside0.mk hb
      clear hb
      rw [Q4.out]
      have HR5 := Aside0.mk ((HR.out.drewN _).below HB5.out)
      have HCY5 := Aside0.mk (show Chg M Y w5 from HCY.out.trans (by repeat (first | exact Chg.refl _ _ | exact Chg.drewN _ _ _ | exact Chg.below HB5.out | refine Chg.trans ?_ (Chg.below HB5.out) | refine Chg.trans ?_ (Chg.drewN _ _ _))))
      have HCW5 := Aside0.mk (show Chg (MY R B0 V) W w5 from HCW.out.trans (by repeat (first | exact Chg.refl _ _ | exact Chg.drewN _ _ _ | exact Chg.below HB5.out | refine Chg.trans ?_ (Chg.below HB5.out) | refine Chg.trans ?_ (Chg.drewN _ _ _))))
      have HD5 := Aside0.mk (show Kd.R (Kd.int .u8) 5 w5 Y.heap.size (fun _ => True) (.slice Av d.length cv) d from Kd.R_below (Kd.R_drewN HD.out _) HB5.out)
      have hy := HR5.out.c
      have hy0 := hy.1
      have hy1 := hy.2.1
      have hy2 := hy.2.2.1
      have hy3 := hy.2.2.2.1
      have hy4 := hy.2.2.2.2
      clear hy c0 c1 c2 c3 c4 r4' r5' r6' hcut hcutd
      have h7 : (dataN f p).length ≤ n := by unfold dataN; rw [List.length_take, HNV.out]; exact Nat.min_le_left _ _
      have HDN := Aside0.mk (show (d ++ dataN f p).length ≤ p + 7 + n by rw [List.length_append]; have := HDL.out; omega)
      clear h7
      obtain ⟨d2, hd2⟩ : ∃ d2, d ++ dataN f p = d2 := ⟨_, rfl⟩
      have HDD := Aside0.mk hd2
      rw [hd2] at HDN Q6
      clear hd2
      have e2 : ((kd : Int) == 2) = false := by simp; omega
      have e3 : ((kd : Int) == 3) = false := by simp; omega
      go_upto_region 28 with (first
        | ((with_reducible refine gate_builtin (b := .append) (xs := #[.tmp 142, .tmp 143]) rfl ?_); at_builtin; refine Kd.R_append_rows (Kd.int .u8) (w0 := w5) Y.heap.size rfl (.tmp 142) (.tmp 143) 22 5 (.int .u8 0) 1 rfl Tryd.underlying22 HI.out rfl (by decide) (by omega) (.slice Av d.length cv) d (dataN f p) Ad n (c2' - 7) (fun _ => True) (fun _ => False) rfl rfl ?aO ?aR (fun _ _ h => h) (fun _ h => h.elim) (fun _ _ => trivial) (Below.refl _ _) ?aS ?aL ?_; (case aO => exact HD5.out); (case aR => exact Kd.C_below HDT.out (HWM.out w5 HCW5.out)); (case aS => exact HCY5.out.size); (case aL => have := HDL.out; have := HLEN.out; omega); intro v6 w6 ho hb hg hat; rw [HDD.out] at ho; have HD6 := Aside0.mk ho; have HR6 := Aside0.mk (show RdAt w6 R blk (some ad) f.length c p (.slice Av d.length cv) o from (hg.block R (blk_lt HR5.out) (Kd.R_ne HD5.out HR5.out (by decide))).trans HR5.out); have HCY6 := Aside0.mk (chg_grown HCY5.out hg (Kd.R_base HD5.out)); have HCW6 := Aside0.mk (HCW5.out.trans (Chg.grown hg (fun k e => .inr (.inr (Nat.le_trans HBY0.out (Kd.R_base HD5.out k e)))))); obtain ⟨A6, c6, rfl⟩ := Kd.R_slice HD6.out; have hx := HR6.out.c; have hx0 := hx.1; have hx1 := hx.2.1; have hx2 := hx.2.2.1; have hx3 := hx.2.2.2.1; have hx4 := hx.2.2.2.2; have hf2 := HR6.out.frozen 2; have hf3 := HR6.out.frozen 3; have hf4 := HR6.out.frozen 4; clear ho hb hg hat hx))
      have hpe : ((p + 7 + n : Nat) : Int) = (p : Int) + (7 + (n : Int)) := by omega
      have hrf := (((HR6.out.set3 (.slice A6 d2.length c6) rfl).set2 (p + 7 + n)).set4 false).set3 (.slice none 0 0) rfl
      have hdf := R_rd (R_rd (R_rd (R_rd HD6.out HR6.out 3 (.slice A6 d2.length c6)) (HR6.out.set3 (.slice A6 d2.length c6) rfl) 2 (.int .i64 ((p + 7 + n : Nat) : Int))) ((HR6.out.set3 (.slice A6 d2.length c6) rfl).set2 (p + 7 + n)) 4 (.bool false)) (((HR6.out.set3 (.slice A6 d2.length c6) rfl).set2 (p + 7 + n)).set4 false) 3 (.slice none 0 0)
      have hcy := (((HCY6.out.trans (Chg.set _ _ R 3 (.slice A6 d2.length c6) HMR.out)).trans (Chg.set _ _ R 2 (.int .i64 ((p + 7 + n : Nat) : Int)) HMR.out)).trans (Chg.set _ _ R 4 (.bool false) HMR.out)).trans (Chg.set _ _ R 3 (.slice none 0 0) HMR.out)
      have hcw := (((HCW6.out.trans (Chg.set _ _ R 3 (.slice A6 d2.length c6) (.inl rfl))).trans (Chg.set _ _ R 2 (.int .i64 ((p + 7 + n : Nat) : Int)) (.inl rfl))).trans (Chg.set _ _ R 4 (.bool false) (.inl rfl))).trans (Chg.set _ _ R 3 (.slice none 0 0) (.inl rfl))
      rw [← hpe]
      clear hx0 hx1 hx2 hx3 hx4 hf2 hf3 hf4 hpe hy0 hy1 hy2 hy3 hy4
      generalize ((((w6.setCell ⟨R, 3, none⟩ (.slice A6 d2.length c6)).setCell ⟨R, 2, none⟩ (.int .i64 ((p + 7 + n : Nat) : Int))).setCell ⟨R, 4, none⟩ (.bool false)).setCell ⟨R, 3, none⟩ (.slice none 0 0)) = X at *
      obtain ⟨p2, hp2⟩ : ∃ p2, p + 7 + n = p2 := ⟨_, rfl⟩
      have hp2l : p2 ≤ f.length := by have := HNV.out; omega
      have hp2m : f.length ≤ p2 + (G - 1) := by omega
      have HP2 := Aside0.mk hp2
      rw [hp2] at hrf Q6 Q7
      have HRX := Aside0.mk hrf
      have HDX := Aside0.mk hdf
      have HCYX := Aside0.mk hcy
      have HCWX := Aside0.mk hcw
      have hxc := hrf.c.2.2.1
      obtain ⟨fn, tmps, asg, bdy, hy, hR2⟩ := HY.out pre (p2, d2, .slice A6 d2.length c6, Y.heap.size) X (HJ.out _ _ _ HJY.out hcy) ⟨Y, HJY.out, Nat.le_refl _⟩ (Nat.le_trans HBY0.out hcy.size) hdf ⟨l', by rw [List.map_append, List.append_assoc, ← HOUT.out, Q6.out]; rfl⟩
      have hy' : (Instr.yield l #[.int .i64 (p2 : Int), .slice A6 d2.length c6]).run Tryd.prog X = .ok (.round l fn tmps asg bdy) X := hy
      clear hrf hdf hcy hcw hp2 hy q1 q3 hpl b1 b2 b3 b4 b5 b5' b6 b6' b7 b7' b8
      refine (wpIn_wide (n := m + 1)).1 ?_
      gi_wp2
      refine hR2.mono ?_
      rintro e X2 (⟨rfl, hJ2, hc2⟩ | ⟨rfl, hJx, hc2⟩)
      · have HJ2 := Aside0.mk hJ2
        have HC2' := Aside0.mk (HCWX.out.trans (hc2.mono (fun k _ hk => hk.elim (fun h => .inr (.inl h)) (fun h => .inr (.inr h)))))
        have HRX2 := Aside0.mk (HRX.out.chg hc2 (fun hk => hk.elim (fun h => (HV.out R h).2 rfl) (fun h => by have := HRB.out; omega)))
        have HSZ2 := Aside0.mk (Nat.le_trans (Nat.le_trans HBY0.out HCYX.out.size) hc2.size)
        clear hJ2 hc2 hR2
        gi_wp2
        go_wp2
        go_roundg (G - 1)
        case measure => omega
        case rel => exact ⟨pre ++ [(p2, d2, .slice A6 d2.length c6, Y.heap.size)], X2, p2, [], .slice none 0 0, false, l', by omega, hp2m, HRX2, Q7, ⟨by rw [List.map_append, List.append_assoc, ← HOUT.out, Q6.out]; rfl⟩, HJ2, ⟨Chg.refl _ _⟩, HSZ2, ⟨Kd.R_nil _ _ _ _ _⟩, ⟨by simp⟩, HC2'⟩
      · have HJ2 := Aside0.mk hJx
        have HC2' := Aside0.mk (HCWX.out.trans (hc2.mono (fun k _ hk => hk.elim (fun h => .inr (.inl h)) (fun h => .inr (.inr h)))))
        clear hJx hc2 hR2
        gi_wp2
        go_wp2
        rw [Exit.noGoto_ret]
        go_ret
        exact ⟨HC2'.out, .inr ⟨pre ++ [(p2, d2, .slice A6 d2.length c6, Y.heap.size)], rfl, ⟨l', by rw [List.map_append, List.append_assoc, ← HOUT.out, Q6.out]; rfl⟩, HJ2.out⟩⟩

end Go.Proofs.YtmpkigambfghgaaDoor.G

/- Printed by the session's program over the kit's print, out of the translation: functions as plain Lean functions, and the proofs that the calls come to them. -/
namespace Go.Proofs.YtmpkigambfghgaaDoor.G
open Go.RowKit Go.Proofs.YtmpkigambfghgaaDoorW.PrintWords Go.Proofs.YtmpkigambfghgaaDoorW.PrintLast Go.Proofs.YtmpkigambfghgaaDoorW.PrintMore
attribute [local go_sem] max2_int min2_int max_two min_two max_three min_three max_four min_four   -- for this text's walks alone
set_option linter.unusedVariables false
set_option linter.unusedSimpArgs false

/-! ### journal_isBlock: function 31 -/
def journal_isBlock.f (a0 : Int) : Option (Bool) := if a0 ≥ 32 then (some (decide (a0 ≤ 32768))) else (some false)
set_option maxHeartbeats 8000000 in
set_option maxRecDepth 100000 in
theorem journal_isBlock.calls (a0 : Int) (r : Bool) (w : World) (h : journal_isBlock.f a0 = some r) :
    Calls Tryd.prog 31 #[.int .i64 a0] w fun e w' => e = .returned (.bool r) ∧ Drawn0 w w' := by
  have H : (if a0 ≥ 32 then (some (decide (a0 ≤ 32768))) else (some false)) = some r := h
  clear h
  by_cases c2 : a0 ≥ 32
  · rw [if_pos c2] at H
    have c2b0 : decide (32 ≤ a0) = true := decide_eq_true c2
    clear c2
    obtain rfl := Option.some.inj H
    go_enter Tryd.func31, Tryd.ntmps31
    go_wp2
    go_ret
    exact ⟨by first | rfl | (simp; done) | (simp [*]; done), by repeat (first | exact Drawn0.refl _ | apply Drawn0.step)⟩
  · rw [if_neg c2] at H
    have c2b0 : decide (32 ≤ a0) = false := decide_eq_false c2
    clear c2
    obtain rfl := Option.some.inj H
    go_enter Tryd.func31, Tryd.ntmps31
    go_wp2
    go_ret
    exact ⟨by first | rfl | (simp; done) | (simp [*]; done), by repeat (first | exact Drawn0.refl _ | apply Drawn0.step)⟩

end Go.Proofs.YtmpkigambfghgaaDoor.G

/- Contracts typed by hand: journal: NewWriter, Size, Cost by hand; the law's file of records -/
namespace Go.Proofs.YtmpkigambfghgaaDoor.G
open Go.RowKit Go.Proofs.YtmpkigambfghgaaDoorW.PrintWords Go.Proofs.YtmpkigambfghgaaDoorW.PrintLast Go.Proofs.YtmpkigambfghgaaDoorW.PrintMore
attribute [local go_sem] max2_int min2_int max_two min_two max_three min_three max_four min_four
set_option linter.unusedVariables false
set_option linter.unusedSimpArgs false

/-! journal: NewWriter, Size, Cost by hand; the law's file of records -/
def hdK : Kd (Option Addr × Nat × Nat) := Kd.scalar (fun x => Value.slice x.1 x.2.1 x.2.2) (fun _ => rfl)
def hdr (hs : List (Option Addr × Nat × Nat)) (i : Nat) : Option Addr × Nat × Nat := hs.getD i (none, 0, 0)
def rec (rs : List (List Int)) (i : Nat) : List Int := rs.getD i []
/-- headers of records that can be read -/
def Heads (w : World) (rs : List (List Int)) (hs : List (Option Addr × Nat × Nat)) : Prop :=
  hs.length = rs.length ∧ ∀ i, i < rs.length → (hdr hs i).2.1 = (rec rs i).length ∧ (rec rs i).length ≤ (hdr hs i).2.2 ∧ Kd.C (Kd.int .u8) w (hdr hs i).1 (rec rs i).length (rec rs i)
theorem Heads.below {w w1 : World} {rs hs} (h : Heads w rs hs) (hb : Below w.heap.size w w1) : Heads w1 rs hs := ⟨h.1, fun i hi => ⟨(h.2 i hi).1, (h.2 i hi).2.1, Kd.C_below (h.2 i hi).2.2 hb⟩⟩
theorem rec_get {rs : List (List Int)} {i : Nat} (h : i < rs.length) : rs[i]? = some (rec rs i) := by unfold rec; rw [List.getD_eq_getElem?_getD, List.getElem?_eq_getElem h]; rfl
theorem hdr_get {hs : List (Option Addr × Nat × Nat)} {i : Nat} (h : i < hs.length) : hs[i]? = some (hdr hs i) := by unfold hdr; rw [List.getD_eq_getElem?_getD, List.getElem?_eq_getElem h]; rfl
theorem heads_of {w : World} {A : Option Addr} {rs : List (List Int)} {e : Nat} (h : Kd.C (Kd.slice e (Kd.int .u8)) w A rs.length rs) : ∃ hs, Heads w rs hs ∧ hdK.C w A rs.length hs := by
  have key : ∀ i, ∃ x : Option Addr × Nat × Nat, i < rs.length → (∃ ad, A = some ad ∧ w.cell? (ad.add i) = some (.slice x.1 x.2.1 x.2.2)) ∧ x.2.1 = (rec rs i).length ∧ (rec rs i).length ≤ x.2.2 ∧ Kd.C (Kd.int .u8) w x.1 (rec rs i).length (rec rs i) := by
    intro i
    by_cases hi : i < rs.length
    · obtain ⟨ad, hA, hc⟩ := h.2.2 (by omega)
      obtain ⟨c, hl, ⟨B, d, hcs, hd, hC⟩, hcell⟩ := hc i _ (rec_get hi)
      subst hcs
      refine ⟨(B, (rec rs i).length, d), fun _ => ⟨⟨ad, hA, ?_⟩, rfl, hd, hC⟩⟩
      have h3 := hcell 0 _ rfl
      have e3 : i * (Kd.slice e (Kd.int .u8)).sz + 0 = i := by show i * 1 + 0 = i; omega
      rw [e3] at h3
      exact h3
    · exact ⟨(none, 0, 0), fun h' => absurd h' hi⟩
  have hf := Classical.axiomOfChoice key
  obtain ⟨f, hf⟩ := hf
  have hget : ∀ i, i < rs.length → hdr ((List.range rs.length).map f) i = f i := by
    intro i hi
    unfold hdr
    rw [List.getD_eq_getElem?_getD, List.getElem?_map, List.getElem?_range hi]
    rfl
  refine ⟨(List.range rs.length).map f, ⟨by simp, fun i hi => ?_⟩, by simp, h.2.1, fun hn => ?_⟩
  · rw [hget i hi]
    exact (hf i hi).2
  · obtain ⟨ad, hA, _⟩ := h.2.2 hn
    refine ⟨ad, hA, fun i p hp => ?_⟩
    have hi : i < rs.length := by have := (List.getElem?_eq_some_iff.1 hp).1; simpa using this
    have hp2 : p = f i := by
      rw [List.getElem?_map, List.getElem?_range hi] at hp
      exact (Option.some.inj hp).symm
    subst hp2
    refine ⟨[.slice (f i).1 (f i).2.1 (f i).2.2], rfl, rfl, fun j u hu => ?_⟩
    obtain ⟨ad2, hA2, hc2⟩ := (hf i hi).1
    have had : ad2 = ad := Option.some.inj (hA2.symm.trans hA)
    subst had
    cases j with
    | zero =>
      have hu2 : Value.slice (f i).1 (f i).2.1 (f i).2.2 = u := by simpa using hu
      rw [← hu2]
      show w.cell? (ad2.add (i * 1 + 0)) = _
      rw [Nat.mul_one, Nat.add_zero]
      exact hc2
    | succ j => simp at hu
theorem hd_at {w : World} {A : Option Addr} {n : Nat} {hs : List (Option Addr × Nat × Nat)} (h : hdK.C w A n hs) (i : Nat) (hi : i < n) : ∃ ad, A = some ad ∧ w.cell? (ad.add i) = some (.slice (hdr hs i).1 (hdr hs i).2.1 (hdr hs i).2.2) := by
  obtain ⟨ad, hA, hc⟩ := h.2.2 (by omega)
  obtain ⟨c, hl, hK, hcell⟩ := hc i _ (hdr_get (by have := h.1; omega))
  have hK2 : c = [.slice (hdr hs i).1 (hdr hs i).2.1 (hdr hs i).2.2] := hK
  subst hK2
  refine ⟨ad, hA, ?_⟩
  have h3 := hcell 0 _ rfl
  have e3 : i * hdK.sz + 0 = i := by show i * 1 + 0 = i; omega
  rw [e3] at h3
  exact h3
/-! the file -/
def fileOf (blk : Nat) (rs : List (List Int)) : List Int := rs.foldl (fun f r => f ++ addR blk (f.length % blk) r) []
theorem fileOf_snoc (blk : Nat) (rs : List (List Int)) (r : List Int) : fileOf blk (rs ++ [r]) = fileOf blk rs ++ addR blk ((fileOf blk rs).length % blk) r := by unfold fileOf; rw [List.foldl_append]; rfl
def endsOf (blk : Nat) (rs : List (List Int)) : List Int := (List.range rs.length).map fun i => ((fileOf blk (rs.take (i + 1))).length : Int)
theorem take_snoc {rs : List (List Int)} {k : Nat} (h : k < rs.length) : rs.take (k + 1) = rs.take k ++ [rec rs k] := by
  rw [List.take_add_one, rec_get h]; rfl
theorem takeh_snoc {hs : List (Option Addr × Nat × Nat)} {k : Nat} (h : k < hs.length) : hs.take (k + 1) = hs.take k ++ [hdr hs k] := by
  rw [List.take_add_one, hdr_get h]; rfl
theorem endsOf_snoc (blk : Nat) (rs : List (List Int)) (k : Nat) (h : k < rs.length) : endsOf blk (rs.take (k + 1)) = endsOf blk (rs.take k) ++ [((fileOf blk (rs.take (k + 1))).length : Int)] := by
  unfold endsOf
  have h1 : (rs.take (k + 1)).length = k + 1 := by rw [List.length_take]; omega
  have h2 : (rs.take k).length = k := by rw [List.length_take]; omega
  rw [h1, h2, List.range_succ, List.map_append]
  congr 1
  · apply List.map_congr_left
    intro i hi
    have hi := List.mem_range.1 hi
    rw [List.take_take, List.take_take, show min (i + 1) (k + 1) = i + 1 by omega, show min (i + 1) k = i + 1 by omega]
  · simp [List.take_take]
/-- how many bytes records have, each with one more -/
def bulk (rs : List (List Int)) : Nat := (rs.map fun r => r.length + 1).sum
theorem bulk_append (a b : List (List Int)) : bulk (a ++ b) = bulk a + bulk b := by simp [bulk]
theorem bulk_take (rs : List (List Int)) (k : Nat) : bulk (rs.take k) ≤ bulk rs := by
  have := bulk_append (rs.take k) (rs.drop k)
  rw [List.take_append_drop] at this
  omega
theorem bulk_rec {rs : List (List Int)} {k : Nat} (h : k < rs.length) : (rec rs k).length + 1 ≤ bulk rs := by
  have h1 := bulk_take rs (k + 1)
  rw [take_snoc h, bulk_append] at h1
  have : bulk [rec rs k] = (rec rs k).length + 1 := by simp [bulk]
  omega
theorem bulk_len (rs : List (List Int)) : rs.length ≤ bulk rs := by
  induction rs with
  | nil => simp [bulk]
  | cons r rs ih => have := bulk_append [r] rs; have h1 : bulk [r] = r.length + 1 := by simp [bulk]
                    simp only [List.cons_append, List.nil_append] at this; simp; omega
theorem fileOf_len (blk : Nat) (h : 32 ≤ blk) (rs : List (List Int)) (k : Nat) (hk : k ≤ rs.length) : (fileOf blk (rs.take k)).length ≤ 23 * bulk (rs.take k) := by
  induction k with
  | zero => simp [fileOf, bulk]
  | succ k ih =>
    have ih := ih (by omega)
    rw [take_snoc (by omega), fileOf_snoc, bulk_append, List.length_append, addR_len]
    have h1 := costR_le blk h ((fileOf blk (rs.take k)).length % blk) (rec rs k).length
    have h2 : bulk [rec rs k] = (rec rs k).length + 1 := by simp [bulk]
    omega
theorem cost_ge (blk : Nat) (h : 32 ≤ blk) : ∀ (k p n : Nat), Enough blk k p n → 7 + n ≤ costJ blk k p n
  | 0, p, n, he => by unfold Enough at he; split at he <;> omega
  | k + 1, p, n, he => by
    unfold costJ
    split
    · omega
    · rename_i hn
      have := cost_ge blk h k 0 (n - mostJ blk p) (he.next h hn)
      omega
theorem costR_ge (blk : Nat) (h : 32 ≤ blk) (p n : Nat) : 7 + n ≤ costR blk p n := cost_ge blk h _ _ _ (enough_self _ _ _)
theorem addR_byt (blk p : Nat) {r : List Int} (h : Byt r) : Byt (addR blk p r) := add_byt _ _ _ _ _ h
theorem fileOf_byt (blk : Nat) (rs : List (List Int)) (h : ∀ r ∈ rs, Byt r) : Byt (fileOf blk rs) := by
  have key : ∀ (rs : List (List Int)) (f : List Int), Byt f → (∀ r ∈ rs, Byt r) → Byt (rs.foldl (fun f r => f ++ addR blk (f.length % blk) r) f) := by
    intro rs
    induction rs with
    | nil => intro f hf _; exact hf
    | cons r rs ih => intro f hf hr; exact ih _ (hf.append (addR_byt _ _ (hr r List.mem_cons_self))) (fun x hx => hr x (List.mem_cons_of_mem _ hx))
  exact key rs [] Byt.nil h
/-! the walks -/
theorem wr_size (g : Nat) (blk size : Int) (hb : blk ≠ 0) (w : World) (h : WrAt w g blk size) :
    Calls Tryd.prog 11 #[.pointer (some ⟨g, 0, none⟩)] w fun e w' => e = .returned (.int .i64 size) ∧ w = w' := by
  have H := Aside0.mk h
  have h1 := h.cells.2.1
  clear h
  go_enter Tryd.func11, Tryd.ntmps11
  go_wp2_with fail
  (with_reducible refine (wr_none g _ _ hb _ H.out).mono ?_)
  rintro e w1 ⟨rfl, rfl⟩
  go_wp2
  go_ret
  exact ⟨rfl, rfl⟩
set_option maxHeartbeats 4000000 in
set_option maxRecDepth 100000 in
theorem wr_cost (g blk : Nat) (size n : Nat) (w : World) (h1 : 32 ≤ blk) (h2 : blk ≤ 32768) (hs : size ≤ 4611686018427387904 + 1099511627776) (h : WrAt w g (blk : Int) (size : Int)) (hn : n ≤ 2097152) :
    Calls Tryd.prog 12 #[.pointer (some ⟨g, 0, none⟩), .int .i64 (n : Int)] w fun e w' => e = .returned (.int .i64 ((costR blk (size % blk) n : Nat) : Int)) ∧ Below w.heap.size w w' := by
  have H := Aside0.mk h
  have HLEN := Aside0.mk (costR_le blk h1 (size % blk) n)
  obtain ⟨L, hL⟩ : ∃ L, costR blk (size % blk) n = L := ⟨_, rfl⟩
  have HLL := Aside0.mk hL
  rw [hL] at HLEN ⊢
  have hs0 := h.cells.1
  have hs1 := h.cells.2.1
  have hc0 : decide ((n : Int) < 0) = false := decide_eq_false (by omega)
  have hc1 : decide ((n : Int) > 2097152) = false := decide_eq_false (by omega)
  have hc2 : decide (2097152 < n) = false := decide_eq_false (by omega)
  have hmod : (size : Int) % (blk : Int) = ((size % blk : Nat) : Int) := by omega
  have hblk0 : ((blk : Int) == 0) = false := by simp; omega
  have hN := Aside0.mk hn
  clear h hL
  go_enter Tryd.func12, Tryd.ntmps12
  go_wp2_with fail
  (with_reducible refine (wr_none g _ _ (by omega) _ H.out).mono ?_)
  rintro e w1 ⟨rfl, rfl⟩
  go_wp2_with fail
  go_quiet (fail)
  all_goals go_wp2
  go_loopg [1, 5, 6] (n + 2) (fun kq v1 v5 v6 wr => ∃ (n' s p : Nat), v1 = .int .i64 (n' : Int) ∧ v5 = .int .i64 (s : Int) ∧ v6 = .int .i64 (p : Int) ∧ p < blk ∧ n' ≤ 2097152 ∧ s ≤ 5000000 ∧ Aside0 (Enough blk kq p n') ∧ Aside0 (s + costJ blk kq p n' = L) ∧ Aside0 (Below w.heap.size w wr))
  case atStart => exact ⟨n, 0, size % blk, rfl, rfl, by rw [hmod], Nat.mod_lt _ (by omega), hn, by omega, ⟨enough_self _ _ _⟩, ⟨by rw [Nat.zero_add]; exact HLL.out⟩, ⟨pw_below_drewN (Below.refl _ _) _⟩⟩
  case round =>
    clear hs0 hs1 hc0 hc1 hc2 hmod
    obtain ⟨n', s, p, rfl, rfl, rfl, hp, hrl, hsl, HE, HOUT, HB⟩ := hrel
    clear hn
    cases gk with
    | zero => exact absurd HE.out (by unfold Enough; split <;> omega)
    | succ k =>
      have hpm := pad_most h1 p
      obtain ⟨pad, hpad⟩ : ∃ pad, padJ blk p = pad := ⟨_, rfl⟩
      obtain ⟨most, hmost⟩ : ∃ most, mostJ blk p = most := ⟨_, rfl⟩
      have HROOM := Aside0.mk (wr_room g blk p size hp h1 h2 wr (H.out.below HB.out))
      have HMD := Aside0.mk (mod_next blk p hp h1)
      rw [hpad, hmost] at hpm HROOM HMD
      have hout := HOUT.out
      unfold costJ at hout
      rw [hpad, hmost] at hout
      have HNXT := Aside0.mk (fun h3 => hmost ▸ HE.out.next h1 (hmost ▸ h3) : ¬ n' ≤ most → Enough blk k 0 (n' - most))
      have hpad6 := hpm.1
      have hmostb := hpm.2.2
      clear hpad hmost hpm HOUT
      have hsb : s + pad + 7 + most ≤ 5000000 + 40000 := by omega
      by_cases hlast : n' ≤ most
      · rw [if_pos hlast] at hout
        have HOUT := Aside0.mk hout
        have hmn1 : (if (n' : Int) < (most : Int) then (n' : Int) else (most : Int)) = (n' : Int) := by split <;> omega
        have hmn2 : (if n' < most then (n' : Int) else (most : Int)) = (n' : Int) := by split <;> omega
        clear hout
        go_wp2_with fail
        (with_reducible refine HROOM.out.mono ?_)
        rintro e w2 ⟨rfl, hd⟩
        have HB2 := Aside0.mk (below_step HB.out hd.below)
        clear hd
        go_wp2
        go_ret
        exact ⟨by rw [← HOUT.out]; simp, HB2.out⟩
      · rw [if_neg hlast] at hout
        have HOUT := Aside0.mk hout
        have hle := HLEN.out
        have hne1 : ((most : Int) == (n' : Int)) = false := by simp; omega
        have hne2 : (most == n') = false := by simp; omega
        have hmn1 : (if (n' : Int) < (most : Int) then (n' : Int) else (most : Int)) = (most : Int) := by split <;> omega
        have hmn2 : (if n' < most then (n' : Int) else (most : Int)) = (most : Int) := by split <;> omega
        have hs2 : s + pad + 7 + most ≤ 5000000 := by have := hN.out; omega
        have hmd : ((p : Int) + (pad : Int) + 7 + (most : Int)) % (blk : Int) = ((0 : Nat) : Int) := by rw [show (p : Int) + (pad : Int) + 7 + (most : Int) = ((p + pad + 7 + most : Nat) : Int) by omega, ← Int.natCast_emod, HMD.out]
        clear hout hle
        go_wp2_with fail
        (with_reducible refine HROOM.out.mono ?_)
        rintro e w2 ⟨rfl, hd⟩
        have HB2 := Aside0.mk (below_step HB.out hd.below)
        have hx0 := (H.out.below HB2.out).cells.1
        clear hd
        go_wp2
        go_roundg k
        case measure => omega
        case rel => exact ⟨n' - most, s + (pad + 7 + most), 0, by rw [show ((n' - most : Nat) : Int) = (n' : Int) - (most : Int) by omega], by rw [show ((s + (pad + 7 + most) : Nat) : Int) = (s : Int) + ((pad : Int) + 7 + (most : Int)) by omega], by rw [hmd], by omega, by omega, by omega, ⟨HNXT.out hlast⟩, ⟨by have := HOUT.out; omega⟩, HB2⟩
theorem new_writer (blk : Nat) (size : Int) (w : World) (h1 : 32 ≤ blk) (h2 : blk ≤ 32768) (hs0 : 0 ≤ size) :
    Calls Tryd.prog 13 #[.int .i64 (blk : Int), .int .i64 size] w fun e w' => ∃ g, e = .returned (.tuple #[.pointer (some ⟨g, 0, none⟩), .int .i64 0]) ∧ WrAt w' g (blk : Int) size ∧ w.heap.size ≤ g ∧ Below w.heap.size w w' := by
  have HI := Aside0.mk (journal_isBlock.calls (blk : Int) true w (by unfold journal_isBlock.f; rw [if_pos (by omega)]; simp; omega))
  have hc : decide (size < 0) = false := decide_eq_false (by omega)
  go_enter Tryd.func13, Tryd.ntmps13
  go_wp2_with fail
  (with_reducible refine HI.out.mono ?_)
  rintro e w1 ⟨rfl, hd⟩
  have HB := Aside0.mk hd.below
  clear hd
  go_wp2
  go_ret2
  exact ⟨w1.heap.size, rfl, World.alloc_heap_new w1 _, HB.out.size, below_alloc HB.out _⟩

end Go.Proofs.YtmpkigambfghgaaDoor.G

/- Contracts typed by hand: journal: the law's function written -/
namespace Go.Proofs.YtmpkigambfghgaaDoor.G
open Go.RowKit Go.Proofs.YtmpkigambfghgaaDoorW.PrintWords Go.Proofs.YtmpkigambfghgaaDoorW.PrintLast Go.Proofs.YtmpkigambfghgaaDoorW.PrintMore
attribute [local go_sem] max2_int min2_int max_two min_two max_three min_three max_four min_four
set_option linter.unusedVariables false
set_option linter.unusedSimpArgs false

/-! journal: the law's function written -/
theorem wr_grown {W w1 : World} {g : Nat} {blk s : Int} {α : Type} {d : Kd α} {e b : Nat} {ok : Nat → Prop} {v : Value} {xs : List α} (h : WrAt W g blk s) (hv : d.R e W b ok v xs) (ht : e ≠ 25) (hg : W.grownBy w1 v.ownBlock) : WrAt w1 g blk s :=
  (hg.block g (blk_lt h) (Kd.R_ne hv h ht)).trans h
theorem wr_set {W : World} {g : Nat} {blk s : Int} {α : Type} {d : Kd α} {e b : Nat} {ok : Nat → Prop} {v : Value} {xs : List α} (h : WrAt W g blk s) (hv : d.R e W b ok v xs) (ht : ∀ q, q ∈ e :: d.E → q ≠ 25) (u : Value) : d.R e (W.setCell ⟨g, 1, none⟩ u) b ok v xs := Kd.R_set hv h ht 1 u
/-- a record's header, in whatever later world -/
theorem hdr_cell {w : World} {ad : Addr} {n : Nat} {hs : List (Option Addr × Nat × Nat)} (h : hdK.C w (some ad) n hs) (i : Nat) (hi : i < n) (W : World) (hb : Below w.heap.size w W) : W.cell? (ad.add i) = some (.slice (hdr hs i).1 (hdr hs i).2.1 (hdr hs i).2.2) := by
  obtain ⟨ad2, e, hc⟩ := hd_at (Kd.C_below h hb) i hi
  have := Option.some.inj e
  subst this
  exact hc
set_option maxHeartbeats 8000000 in
set_option maxRecDepth 100000 in
theorem written_calls (blk : Nat) (A0 : Option Addr) (c0 : Nat) (rs : List (List Int)) (hs : List (Option Addr × Nat × Nat)) (w : World) (h1 : 32 ≤ blk) (h2 : blk ≤ 32768) (hH : Heads w rs hs) (hC : hdK.C w A0 rs.length hs) (hc0 : rs.length ≤ c0) (hby : ∀ r ∈ rs, Byt r) (hbulk : bulk rs ≤ 1048576) (hT : TabAt w) :
    Calls Tryd.prog 22 #[.int .i64 (blk : Int), .slice A0 rs.length c0] w fun e w' => ∃ v0 v1 v2 : Value, e = .returned (.tuple #[v0, v1, v2, .bool true]) ∧ Kd.R (Kd.int .u8) 5 w' w.heap.size (fun _ => True) v0 (fileOf blk rs) ∧ Kd.R (Kd.int .i64) 3 w' w.heap.size (fun _ => True) v1 (endsOf blk rs) ∧ Kd.R hdK 22 w' w.heap.size (fun _ => True) v2 hs ∧ Below w.heap.size w w' := by
  have HH := Aside0.mk hH
  have HC := Aside0.mk hC
  have HBY := Aside0.mk hby
  have HT := Aside0.mk hT
  have HBK := Aside0.mk hbulk
  have HHL := Aside0.mk hH.1
  have hinfo : (Tryd.prog.info? 5).map (fun i => (i.zero, i.size, i.bytes)) = some (some (.int .u8 0), 1, 1) := by kernel_rfl
  have HI := Aside0.mk hinfo
  have hinfo2 : (Tryd.prog.info? 3).map (fun i => (i.zero, i.size, i.bytes)) = some (some (.int .i64 0), 1, 8) := by kernel_rfl
  have HI2 := Aside0.mk hinfo2
  have hinfo3 : (Tryd.prog.info? 22).map (fun i => (i.zero, i.size, i.bytes)) = some (some (.slice none 0 0), 1, 24) := by kernel_rfl
  have HI3 := Aside0.mk hinfo3
  have hnl : rs.length ≤ 1048576 := Nat.le_trans (bulk_len rs) hbulk
  obtain ⟨n, hn⟩ : ∃ n, rs.length = n := ⟨_, rfl⟩
  have HN := Aside0.mk hn
  rw [hn] at hnl hc0 ⊢
  have HCC := Aside0.mk (show hdK.C w A0 n hs by rw [← hn]; exact hC)
  clear hH hC hby hT hbulk hinfo hinfo2 hinfo3 hn
  go_enter Tryd.func22, Tryd.ntmps22
  go_wp2_with fail
  (with_reducible refine (new_writer blk 0 _ h1 h2 (Int.le_refl _)).mono ?_)
  rintro e w1 ⟨g, rfl, hw, hg0, hb⟩
  have HW1 := Aside0.mk hw
  have HB1 := Aside0.mk hb
  have HG := Aside0.mk hg0
  clear hw hb hg0
  go_wp2_with fail
  go_loopw [10, 11, 12, 13] (fun v10 v11 v12 v13 wr => ∃ (k : Nat), v13 = .int .i64 (k : Int) ∧ k ≤ n ∧ Aside0 (Kd.R (Kd.int .u8) 5 wr w.heap.size (fun _ => True) v10 (fileOf blk (rs.take k))) ∧ Aside0 (Kd.R (Kd.int .i64) 3 wr w.heap.size (fun _ => True) v11 (endsOf blk (rs.take k))) ∧ Aside0 (Kd.R hdK 22 wr w.heap.size (fun _ => True) v12 (hs.take k)) ∧ Aside0 (WrAt wr g (blk : Int) ((fileOf blk (rs.take k)).length : Int)) ∧ Aside0 (Below w.heap.size w wr)) (fun _ _ _ v13 _ => n - (intOf v13).toNat)
  case atStart => exact ⟨0, rfl, by omega, ⟨Kd.R_nil _ _ _ _ _⟩, ⟨Kd.R_nil _ _ _ _ _⟩, ⟨Kd.R_nil _ _ _ _ _⟩, HW1, HB1⟩
  case round =>
    clear HW1 HB1
    obtain ⟨k, rfl, hkn, HF, HE, HK, HW, HB⟩ := hrel
    by_cases hlt : k < n
    · have b1 : decide ((k : Int) < (n : Int)) = true := decide_eq_true (by omega)
      have hkr : k < rs.length := by rw [HN.out]; exact hlt
      obtain ⟨ad, e1, _⟩ := hd_at HCC.out k hlt
      cases e1
      have HCELL := Aside0.mk (hdr_cell HCC.out k hlt)
      have hd2 := HH.out.2 k hkr
      have HSN := Aside0.mk (takeh_snoc (hs := hs) (k := k) (by rw [HHL.out]; exact hkr))
      have HFN := Aside0.mk (show fileOf blk (rs.take (k + 1)) = fileOf blk (rs.take k) ++ addR blk ((fileOf blk (rs.take k)).length % blk) (rec rs k) by rw [take_snoc hkr, fileOf_snoc])
      have HEN := Aside0.mk (endsOf_snoc blk rs k hkr)
      have hrl := bulk_rec hkr
      have hfl := fileOf_len blk h1 rs (k + 1) (by omega)
      have hfl0 := fileOf_len blk h1 rs k (by omega)
      have hbt := bulk_take rs (k + 1)
      have hbt0 := bulk_take rs k
      have HRB := Aside0.mk (HBY.out (rec rs k) (List.mem_of_getElem? (rec_get hkr)))
      obtain ⟨r, hr⟩ : ∃ r, rec rs k = r := ⟨_, rfl⟩
      obtain ⟨F, hF⟩ : ∃ F, fileOf blk (rs.take k) = F := ⟨_, rfl⟩
      obtain ⟨F2, hF2⟩ : ∃ F2, fileOf blk (rs.take (k + 1)) = F2 := ⟨_, rfl⟩
      obtain ⟨E, hE⟩ : ∃ E, endsOf blk (rs.take k) = E := ⟨_, rfl⟩
      have HEL := Aside0.mk (show E.length = k by rw [← hE]; unfold endsOf; rw [List.length_map, List.length_range, List.length_take]; omega)
      obtain ⟨x, hx⟩ : ∃ x, hdr hs k = x := ⟨_, rfl⟩
      rw [hx, hr] at hd2
      rw [hx] at HCELL HSN
      rw [hr] at hrl HRB HFN
      rw [hF] at HF HW hfl0 HFN
      rw [hF2] at hfl HFN HEN
      rw [hE] at HE HEN
      obtain ⟨B, m, dc⟩ := x
      obtain ⟨hm, hdc, hrC⟩ := hd2
      simp only [] at hm hdc hrC
      subst hm
      have HRC := Aside0.mk hrC
      have HDC := Aside0.mk hdc
      have hr1 : r.length ≤ 1048576 := by have := HBK.out; omega
      have hFl : F.length ≤ 24200000 := by have := HBK.out; omega
      have hF2l : F2.length ≤ 24200000 := by have := HBK.out; omega
      have b2 : decide ((r.length : Int) > 2097152) = false := decide_eq_false (by omega)
      have b3 : decide (2097152 < r.length) = false := decide_eq_false (by omega)
      have hAL : F2.length = F.length + (addR blk (F.length % blk) r).length := by rw [HFN.out, List.length_append]
      obtain ⟨D, hD⟩ : ∃ D, addR blk (F.length % blk) r = D := ⟨_, rfl⟩
      have hDL : 7 + r.length ≤ D.length := by rw [← hD, addR_len]; exact costR_ge blk h1 _ _
      have b4 : decide ((D.length : Int) < 7 + (r.length : Int)) = false := decide_eq_false (by omega)
      rw [hD] at HFN hAL
      have HD := Aside0.mk hD
      have HFL := Aside0.mk hFl
      have HF2L := Aside0.mk hF2l
      have HR1 := Aside0.mk hr1
      have HDL := Aside0.mk (show D.length ≤ 24200000 by omega)
      have hq1 := HCELL.out wr HB.out
      have ew : wrap64 ((k : Int) + 1) = ((k + 1 : Nat) : Int) := by unfold wrap64; omega
      have HX2 := Aside0.mk hF2
      have HAL := Aside0.mk hAL
      clear hrC hdc hfl hfl0 hbt hbt0 hrl hr hF hF2 hE hx hFl hF2l hAL hD hkr hDL
      have hk1 : k ≤ 1048576 := by omega
      go_wp2_with fail
      (with_reducible refine (wr_add g blk F.length B dc r wr h1 h2 (by have := HFL.out; omega) HW.out (HT.out.below HB.out) (Kd.C_below HRC.out HB.out) HDC.out HRB.out (by have := HR1.out; omega)).mono ?_)
      rintro e w2 ⟨vd, rfl, hdR, hw2, w1', hb1, rfl⟩
      rw [HD.out] at hdR hw2 ⊢
      have hw1' := HW.out.below hb1
      have HB2 := Aside0.mk (below_set (v := .int .i64 ((F.length + D.length : Nat) : Int)) (j := 1) (below_step HB.out hb1) HG.out)
      have HF2' := Aside0.mk (wr_set hw1' (Kd.R_below HF.out hb1) (by decide) (.int .i64 ((F.length + D.length : Nat) : Int)))
      have HE2 := Aside0.mk (wr_set hw1' (Kd.R_below HE.out hb1) (by decide) (.int .i64 ((F.length + D.length : Nat) : Int)))
      have HK2 := Aside0.mk (wr_set hw1' (Kd.R_below HK.out hb1) (by decide) (.int .i64 ((F.length + D.length : Nat) : Int)))
      have HW2 := Aside0.mk hw2
      have HDR := Aside0.mk hdR
      obtain ⟨AD, cD, rfl, hcD, hD2⟩ := Kd.R_reads hdR
      have HD2 := Aside0.mk hD2
      generalize hWW : w1'.setCell ⟨g, 1, none⟩ (.int .i64 ((F.length + D.length : Nat) : Int)) = W2 at *
      have hq2 := HCELL.out W2 HB2.out
      clear hWW hw1' hb1 hw2 hdR hD2 hq1 hcD
      go_wp2_with (first
        | ((with_reducible refine gate_builtin (b := .append) (xs := #[.tmp 61, .tmp 62]) rfl ?_); at_builtin; refine Kd.R_append_rows (Kd.int .u8)  (w0 := w) w.heap.size rfl (.tmp 61) (.tmp 62) 22 5 (.int .u8 0) 1 rfl Tryd.underlying22 HI.out rfl (by decide) (by omega) u10 F D _ _ _ (fun _ => True) (fun _ => False) rfl rfl ?aO ?aR (fun _ _ h => h) (fun _ h => h.elim) (fun _ _ => trivial) ?aB ?aS ?aL ?_; (case aO => exact HF2'.out); (case aR => exact HD2.out); (case aB => exact HB2.out); (case aS => exact (HB2.out).size); (case aL => have := HFL.out; have := HDL.out; omega); intro v63 w3 ho hb hg hat; rw [← HFN.out] at ho; have HE3 := Aside0.mk (Kd.R_over HE2.out HF2'.out (by decide) hg); have HK3 := Aside0.mk (Kd.R_over HK2.out HF2'.out (by decide) hg); have HW3 := Aside0.mk (wr_grown HW2.out HF2'.out (by decide) hg); have HF3 := Aside0.mk ho; have HB3 := Aside0.mk hb; obtain ⟨AF, cF, rfl⟩ := Kd.R_slice HF3.out; clear ho hb hg hat)
        | ((with_reducible refine gate_builtin (b := .append) (xs := #[.tmp 64, .tmp 67]) rfl ?_); at_builtin; refine Kd.R_append (Kd.int .i64) (w0 := w) w.heap.size rfl (.tmp 64) (.tmp 67) 46 3 (.int .i64 0) 8 rfl Tryd.underlying46 HI2.out rfl (by decide) (by omega) u11 E (F2.length : Int) [.int .i64 (F2.length : Int)] (fun _ => True) (fun _ => False) rfl rfl ?aP (fun _ hk => hk.elim) (fun _ _ => trivial) ?aO ?aB ?aS ?aL ?_; (case aP => exact rfl); (case aO => exact HE3.out); (case aB => exact HB3.out); (case aS => exact (HB3.out).size); (case aL => rw [HEL.out]; omega); intro v68 w4 ho hb hg hat; rw [← HEN.out] at ho; have HF4 := Aside0.mk (Kd.R_over HF3.out HE3.out (by decide) hg); have HK4 := Aside0.mk (Kd.R_over HK3.out HE3.out (by decide) hg); have HW4 := Aside0.mk (wr_grown HW3.out HE3.out (by decide) hg); have HE4 := Aside0.mk ho; have HB4 := Aside0.mk hb; have hq4 := HCELL.out w4 HB4.out; clear ho hb hg hat)
        | ((with_reducible refine gate_builtin (b := .append) (xs := #[.tmp 69, .tmp 74]) rfl ?_); at_builtin; refine Kd.R_append hdK (w0 := w) w.heap.size rfl (.tmp 69) (.tmp 74) 33 22 (.slice none 0 0) 24 rfl Tryd.underlying33 HI3.out rfl (by decide) (by omega) u12 (hs.take k) (B, r.length, dc) [.slice B r.length dc] (fun _ => True) (fun _ => False) rfl rfl ?aP (fun _ hk => hk.elim) (fun _ _ => trivial) ?aO ?aB ?aS ?aL ?_; (case aP => exact rfl); (case aO => exact HK4.out); (case aB => exact HB4.out); (case aS => exact (HB4.out).size); (case aL => rw [List.length_take]; omega); intro v75 w5 ho hb hg hat; rw [← HSN.out] at ho; have HF5 := Aside0.mk (Kd.R_over HF4.out HK4.out (by decide) hg); have HE5 := Aside0.mk (Kd.R_over HE4.out HK4.out (by decide) hg); have HW5 := Aside0.mk (wr_grown HW4.out HK4.out (by decide) hg); have HK5 := Aside0.mk ho; have HB5 := Aside0.mk hb; clear ho hb hg hat))
      go_roundw
      case rel => exact ⟨k + 1, by go_num, by omega, by rw [HX2.out]; exact HF5, HE5, HK5, by rw [HX2.out, HAL.out]; exact HW5, HB5⟩
      case measure => simp only [intOf]; omega
    · obtain rfl : k = n := by omega
      have b1 : decide ((k : Int) < (k : Int)) = false := decide_eq_false (by omega)
      have hr1 : rs.take k = rs := List.take_of_length_le (Nat.le_of_eq HN.out)
      have hr2 : hs.take k = hs := List.take_of_length_le (Nat.le_of_eq (HHL.out.trans HN.out))
      rw [hr1] at HF HE HW
      rw [hr2] at HK
      obtain ⟨F, hF⟩ : ∃ F, fileOf blk rs = F := ⟨_, rfl⟩
      obtain ⟨E, hE⟩ : ∃ E, endsOf blk rs = E := ⟨_, rfl⟩
      have HX := Aside0.mk hF
      have HX2 := Aside0.mk hE
      rw [hF] at HF HW
      rw [hE] at HE
      obtain ⟨AF, cF, rfl⟩ := Kd.R_slice HF.out
      clear hr1 hr2 hF hE
      go_wp2_with fail
      (with_reducible refine (wr_size g _ _ (by omega) _ HW.out).mono ?_)
      rintro e w2 ⟨rfl, rfl⟩
      go_wp2
      refine bodyPost_ret (v := .tuple #[.slice AF F.length cF, u11, u12, .bool true]) (by simp [results, Tryd.results22, go_sem]) rfl ?_
      exact ⟨_, _, _, rfl, by rw [HX.out]; exact HF.out, by rw [HX2.out]; exact HE.out, HK.out, HB.out⟩

end Go.Proofs.YtmpkigambfghgaaDoor.G

/- Contracts typed by hand: journal: Read by hand -/
namespace Go.Proofs.YtmpkigambfghgaaDoor.G
open Go.RowKit Go.Proofs.YtmpkigambfghgaaDoorW.PrintWords Go.Proofs.YtmpkigambfghgaaDoorW.PrintLast Go.Proofs.YtmpkigambfghgaaDoorW.PrintMore
attribute [local go_sem] max2_int min2_int max_two min_two max_three min_three max_four min_four
set_option linter.unusedVariables false
set_option linter.unusedSimpArgs false

/-! journal: Read by hand -/
theorem bx_chg {M : Nat → Prop} {W W1 : World} {B : Nat} {t : TypeId} {v : Value} (h : Boxed W B t v) (hc : Chg M W W1) (hm : ¬ M B) : Boxed W1 B t v := (hc.block B h.lt hm).trans h
theorem bx_below {W W1 : World} {B : Nat} {t : TypeId} {v : Value} (h : Boxed W B t v) (hb : Below W.heap.size W W1) : Boxed W1 B t v := (hb.block B h.lt).trans h
set_option maxHeartbeats 4000000 in
set_option maxRecDepth 100000 in
theorem read1_seq (n Rb Bv H B0 blk : Nat) (A : Option Addr) (c : Nat) (f : List Int) (wf Wl : World) (V : Nat → Prop) (outs : List (Nat × List Int)) (how : Nat)
    (h1 : 32 ≤ blk) (h2 : blk ≤ 32768) (hR : RdAt Wl Rb blk A f.length c 0 (.slice none 0 0) false) (hB : Boxed Wl Bv 73 (.pointer (some ⟨Rb, 0, none⟩))) (hH : Boxed Wl H 3 (.int .i64 0)) (hC : Kd.C (Kd.int .u8) wf A f.length f) (hc : f.length ≤ c) (hb : Byt f) (hl : f.length ≤ 1099511627776) (hwf : Below wf.heap.size wf Wl) (hT : TabAt wf)
    (hRf : wf.heap.size ≤ Rb) (hHf : wf.heap.size ≤ H) (hV : ∀ k, V k → wf.heap.size ≤ k ∧ k ≠ Rb ∧ k ≠ H) (hRB : Rb < B0) (hHB : H < B0) (hHR : H ≠ Rb) (hBW : B0 = Wl.heap.size) (hrd : Reads blk f 0 [] false outs how) :
    SeqSt n Tryd.prog 33 #[.pointer (some ⟨Bv, 0, none⟩), .pointer (some ⟨H, 0, none⟩)] encY OkY (fun x => x.2.2.2) (fun k => k = Rb ∨ k = H) V (fun xs X => xs.map outY = outs ∧ Boxed X H 3 (.int .i64 (how : Int))) (fun pre => pre.map outY <+: outs) Wl := by
  intro l J Jx W hW hJ hJx hY h0
  have HJ := Aside0.mk hJ
  have HJX := Aside0.mk hJx
  have HHB := Aside0.mk hHB
  have HHR := Aside0.mk hHR
  have HV := Aside0.mk hV
  have HBH := Aside0.mk (bx_below hH hW)
  have hcell := (bx_below hB hW).cell
  have HG := Aside0.mk (goOn_calls l (n - 1) Rb blk B0 A c f wf W (fun k => k = Rb ∨ k = H) V J Jx outs how h1 h2 (hR.below hW) hC hc hb hl ⟨hW.os.trans hwf.os, hW.tape.trans hwf.tape, hW.output.trans hwf.output, Nat.le_trans hwf.size hW.size, fun k hk => (hW.block k (Nat.lt_of_lt_of_le hk hwf.size)).trans (hwf.block k hk)⟩ hT (.inl rfl) hRf (fun k hk => ⟨(hV k hk).1, (hV k hk).2.1⟩) hRB (by rw [hBW]; exact hW.size) hJ (by rw [hBW]; exact hY) h0 hrd)
  clear hJ hJx hHB hHR hV hH hB hR hC hc hb hl hwf hT hRf hHf hRB hBW hrd hW hY h0
  refine callsIn_wide.2 ?_
  show Calls Tryd.prog 33 #[.func (.yield l) #[] #[], .pointer (some ⟨Bv, 0, none⟩), .pointer (some ⟨H, 0, none⟩)] W _
  go_enter Tryd.func33, Tryd.ntmps33
  go_wp2_with fail
  (with_reducible refine HG.out.mono ?_)
  rintro e w1 ⟨hc, hres⟩
  have HB1 := Aside0.mk (bx_chg HBH.out hc (by rintro (h | h | h); exact HHR.out h; exact (HV.out H h).2.2 rfl; have := HHB.out; omega))
  have q1 := HB1.out.cell
  have q2 := HB1.out.frozen
  clear hc hcell
  rcases hres with ⟨xs, rfl, hm, hj⟩ | ⟨pre, rfl, hm, hj⟩
  · have HM := Aside0.mk hm
    have HJ1 := Aside0.mk (HJ.out _ _ _ hj (Chg.set (fun k => k = Rb ∨ k = H) w1 H 0 (.int .i64 (how : Int)) (.inr rfl)))
    clear hm hj
    go_wp2
    go_end0
    exact ⟨⟨_, rfl⟩, .inl ⟨xs, ⟨HM.out, HB1.out.set _⟩, HJ1.out⟩⟩
  · have HM := Aside0.mk hm
    have HJ1 := Aside0.mk (HJX.out _ _ _ hj (Chg.set (fun k => k = Rb ∨ k = H) w1 H 0 (.int .i64 0) (.inr rfl)))
    clear hm hj
    go_wp2
    go_end0
    exact ⟨⟨_, rfl⟩, .inr ⟨pre, HM.out, HJ1.out⟩⟩
/-! what the loop gathers -/
def hdY (x : Yx) : Option Addr × Nat × Nat := match x.2.2.1 with | .slice A n c => (A, n, c) | _ => (none, 0, 0)
def endY (l : List Yx) : Int := match l.getLast? with | some x => (x.1 : Int) | none => 0
theorem endY_snoc (l : List Yx) (x : Yx) : endY (l ++ [x]) = (x.1 : Int) := by simp [endY]
def valY (l : List Yx) (i : Nat) : Value := (l.getD i (0, [], .slice none 0 0, 0)).2.2.1
def datY (l : List Yx) (i : Nat) : List Int := (l.getD i (0, [], .slice none 0 0, 0)).2.1
structure Recs (X : World) (B : Nat) (l : List Yx) : Prop where
  rows : ∀ i, i < l.length → Kd.R (Kd.int .u8) 5 X B (fun _ => True) (valY l i) (datY l i)
  apart : ∀ i j, i < j → j < l.length → ∀ k, (valY l i).ownBlock = some k → (valY l j).ownBlock ≠ some k
theorem Recs.nil (X : World) (B : Nat) : Recs X B [] := ⟨fun i h => absurd h (Nat.not_lt_zero i), fun i j _ h => absurd h (Nat.not_lt_zero j)⟩
theorem Recs.step {X Z : World} {B : Nat} {l : List Yx} (h : Recs X B l) (hs : ∀ (v : Value) (xs : List Int), Kd.R (Kd.int .u8) 5 X B (fun _ => True) v xs → Kd.R (Kd.int .u8) 5 Z B (fun _ => True) v xs) : Recs Z B l := ⟨fun i hi => hs _ _ (h.rows i hi), h.apart⟩
theorem getD_snoc_lt {α : Type} (l : List α) (x d : α) (i : Nat) (h : i < l.length) : (l ++ [x]).getD i d = l.getD i d := by
  rw [List.getD_eq_getElem?_getD, List.getD_eq_getElem?_getD, List.getElem?_append_left h]
theorem getD_snoc_eq {α : Type} (l : List α) (x d : α) : (l ++ [x]).getD l.length d = x := by
  rw [List.getD_eq_getElem?_getD, List.getElem?_append_right (Nat.le_refl _), Nat.sub_self]; rfl
theorem Recs.snoc {X : World} {B : Nat} {l : List Yx} {x : Yx} (h : Recs X B l) (hx : Kd.R (Kd.int .u8) 5 X B (fun _ => True) x.2.2.1 x.2.1) (ha : ∀ i, i < l.length → ∀ k, (valY l i).ownBlock = some k → x.2.2.1.ownBlock ≠ some k) : Recs X B (l ++ [x]) := by
  have e1 : ∀ i, i < l.length → valY (l ++ [x]) i = valY l i ∧ datY (l ++ [x]) i = datY l i := fun i hi => by unfold valY datY; rw [getD_snoc_lt l x _ i hi]; exact ⟨rfl, rfl⟩
  have e2 : valY (l ++ [x]) l.length = x.2.2.1 ∧ datY (l ++ [x]) l.length = x.2.1 := by unfold valY datY; rw [getD_snoc_eq]; exact ⟨rfl, rfl⟩
  refine ⟨fun i hi => ?_, fun i j hij hj k hk => ?_⟩
  · by_cases hlt : i < l.length
    · rw [(e1 i hlt).1, (e1 i hlt).2]; exact h.rows i hlt
    · obtain rfl : i = l.length := by simp at hi; omega
      rw [e2.1, e2.2]; exact hx
  · by_cases hlt : j < l.length
    · rw [(e1 j hlt).1]; rw [(e1 i (by omega)).1] at hk; exact h.apart i j hij hlt k hk
    · obtain rfl : j = l.length := by simp at hj; omega
      rw [e2.1]; rw [(e1 i hij).1] at hk; exact ha i hij k hk
/-- a row of the call's own does not turn where others than cells do -/
theorem R_others {α : Type} {d : Kd α} {e b : Nat} {X Z : World} {v : Value} {xs : List α} {row : Option Nat} (hE : d.E = []) (h : d.R e X b (fun _ => True) v xs) (hg : X.grownBy Z row) (hr : ∀ r, row = some r → ∃ o : Obj, X.heap[r]? = some o ∧ o.isCells = false) : d.R e Z b (fun _ => True) v xs :=
  Kd.R_mono (Kd.R_grown (Kd.R_tight hE h) hg (fun k hk e' => by
    obtain ⟨cells, hc⟩ := Kd.R_typed h k hk.symm
    obtain ⟨o, ho, hn⟩ := hr k e'.symm
    rw [hc] at ho; cases ho; cases hn)) (fun _ _ => trivial)
theorem R_chg {α : Type} {d : Kd α} {e b : Nat} {X Z : World} {v : Value} {xs : List α} {M : Nat → Prop} (h : d.R e X b (fun _ => True) v xs) (hc : Chg M X Z) (hm : ∀ k, M k → k < b) : d.R e Z b (fun _ => True) v xs :=
  Kd.R_mono (Kd.R_step (Kd.R_bound h) (fun k hk hlt => hc.block k hlt (fun hM => by have := hm k hM; have := hk.2.1; omega))) (fun _ _ => trivial)
theorem R_raise1 {X : World} {b b' : Nat} {v : Value} {xs : List Int} {ok : Nat → Prop} (h : Kd.R (Kd.int .u8) 5 X b ok v xs) (hb : b' ≤ b) : Kd.R (Kd.int .u8) 5 X b' ok v xs := Kd.R_lower h hb
/-- what holds between the rounds: the records' row, the place behind the last one, the records themselves -/
def RdI (w : World) (a B0 : Nat) (pre : List Yx) (X : World) : Prop :=
  B0 ≤ X.heap.size ∧ (∃ v, Boxed X a 33 v ∧ Kd.R hdK 22 X B0 (fun _ => True) v (pre.map hdY)) ∧ Boxed X (a + 1) 3 (.int .i64 (endY pre)) ∧ Recs X B0 pre ∧ Below w.heap.size w X
theorem rdI_own (w : World) (a B0 : Nat) (hB : w.heap.size ≤ B0) : OwnFrom B0 (RdI w a B0) := by
  rintro pre X Z row ⟨h1, ⟨v, h2, h3⟩, h4, h5, h6⟩ hg hr
  have hr' : ∀ r, row = some r → ∃ o : Obj, X.heap[r]? = some o ∧ o.isCells = false := fun r e => (hr r e).2
  have bk : ∀ (B : Nat) (t : TypeId) (u : Value), Boxed X B t u → Boxed Z B t u := fun B t u h => h.kept hg (fun e => by
    obtain ⟨o, ho, hn⟩ := hr' B e.symm
    rw [show X.heap[B]? = _ from h] at ho; cases ho; cases hn)
  exact ⟨Nat.le_trans h1 hg.size, ⟨v, bk _ _ _ h2, R_others rfl h3 hg hr'⟩, bk _ _ _ h4, h5.step (fun v xs h => R_others rfl h hg hr'), h6.grown hg h6.size (fun k e => by have := (hr k e).1; omega)⟩
theorem rdI_chg (w : World) (a B0 : Nat) (M : Nat → Prop) (hM : ∀ k, M k → k < B0 ∧ w.heap.size ≤ k ∧ k ≠ a ∧ k ≠ a + 1) : ∀ s X Z, RdI w a B0 s X → Chg M X Z → RdI w a B0 s Z := by
  rintro pre X Z ⟨h1, ⟨v, h2, h3⟩, h4, h5, h6⟩ hc
  exact ⟨Nat.le_trans h1 hc.size, ⟨v, bx_chg h2 hc (fun h => (hM _ h).2.2.1 rfl), R_chg h3 hc (fun k h => (hM k h).1)⟩, bx_chg h4 hc (fun h => (hM _ h).2.2.2 rfl), h5.step (fun v xs h => R_chg h hc (fun k h => (hM k h).1)), below_chg h6 hc (fun k h => (hM k h).2.1)⟩

end Go.Proofs.YtmpkigambfghgaaDoor.G

/- Contracts typed by hand: journal: Read by hand, its walk -/
namespace Go.Proofs.YtmpkigambfghgaaDoor.G
open Go.RowKit Go.Proofs.YtmpkigambfghgaaDoorW.PrintWords Go.Proofs.YtmpkigambfghgaaDoorW.PrintLast Go.Proofs.YtmpkigambfghgaaDoorW.PrintMore
attribute [local go_sem] max2_int min2_int max_two min_two max_three min_three max_four min_four
set_option linter.unusedVariables false
set_option linter.unusedSimpArgs false

/-! journal: Read by hand, its walk -/
open Go.Shelf
attribute [local go_sem] Oper.semAt_some
theorem Reads.len {blk : Nat} {f : List Int} {p : Nat} {d : List Int} {o : Bool} {l : List (Nat × List Int)} {how : Nat} (h : Reads blk f p d o l how) : l.length ≤ f.length - p := by
  induction h with
  | pad p d o l h h1 h2 h3 h4 ih => omega
  | more p d o l h h1 h2 h3 h4 h5 h6 ih => omega
  | whole p d o l h h1 h2 h3 h4 h5 h6 ih => rw [List.length_cons]; omega
  | _ => simp
theorem results_ccct {P : Program} {fn : Func} {p q r v : Tmp} {ty tz tw e : TypeId} {k1 k2 : IntKind} (h : fn.results = #[.cell p ty, .cell q tz, .cell r tw, .tmp v]) (tmps : Array Value) (w : World) (g1 g2 g3 : Nat) (x y z : Value)
    (hp : tmps.getD p undef = .pointer (some ⟨g1, 0, none⟩)) (hq : tmps.getD q undef = .pointer (some ⟨g2, 0, none⟩)) (hr : tmps.getD r undef = .pointer (some ⟨g3, 0, none⟩))
    (c1 : w.cell? ⟨g1, 0, none⟩ = some x) (c2 : w.cell? ⟨g2, 0, none⟩ = some y) (c3 : w.cell? ⟨g3, 0, none⟩ = some z) (u1 : P.underlying ty = some (.slice e)) (u2 : P.underlying tz = some (.int k1)) (u3 : P.underlying tw = some (.int k2)) :
    (results fn tmps).run P w = .ok (.tuple #[x, y, z, tmps.getD v undef]) w := by
  have hp' : tmps[p]?.getD undef = .pointer (some ⟨g1, 0, none⟩) := by simpa using hp
  have hq' : tmps[q]?.getD undef = .pointer (some ⟨g2, 0, none⟩) := by simpa using hq
  have hr' : tmps[r]?.getD undef = .pointer (some ⟨g3, 0, none⟩) := by simpa using hr
  simp [results, h, hp', hq', hr', asAddr, loadVar, isAgg, run_underlying u1, run_underlying u2, run_underlying u3, c1, c2, c3, go_sem]
set_option maxHeartbeats 8000000 in
set_option maxRecDepth 100000 in
theorem read_calls (blk : Nat) (A : Option Addr) (c : Nat) (f : List Int) (w : World) (outs : List (Nat × List Int)) (how : Nat) (h1 : 32 ≤ blk) (h2 : blk ≤ 32768) (hC : Kd.C (Kd.int .u8) w A f.length f) (hc : f.length ≤ c) (hb : Byt f) (hl : f.length ≤ 1099511627776) (hT : TabAt w) (hrd : Reads blk f 0 [] false outs how) :
    Calls Tryd.prog 23 #[.int .i64 (blk : Int), .slice A f.length c] w fun e w' => ∃ (v0 : Value) (xs : List Yx), e = .returned (.tuple #[v0, .int .i64 (endY xs), .int .i64 (how : Int), .int .i64 0]) ∧ xs.map outY = outs ∧ Kd.R hdK 22 w' w.heap.size (fun _ => True) v0 (xs.map hdY) ∧ Recs w' w.heap.size xs ∧ Below w.heap.size w w' := by
  have HC := Aside0.mk hC
  have HCC := Aside0.mk hc
  have HBY := Aside0.mk hb
  have HLEN := Aside0.mk hl
  have HT := Aside0.mk hT
  have HRD := Aside0.mk hrd
  have HOL := Aside0.mk (show outs.length ≤ 1099511627776 from Nat.le_trans hrd.len (by omega))
  have HVV := Aside0.mk (journal_isBlock.calls (blk : Int) true (((w.alloc (.cells #[.slice none 0 0] 33)).alloc (.cells #[.int .i64 0] 3)).alloc (.cells #[.int .i64 0] 3)) (by unfold journal_isBlock.f; rw [if_pos (by omega)]; simp; omega))
  clear hC hc hb hl hT hrd
  refine (callsIn_wide (n := 5)).1 ?_
  refine callsIn_of_wp_marks Tryd.func23 rfl trivial ?_ rfl
  simp only [Tryd.ntmps23, List.size_toArray, List.length_cons, List.length_nil, Nat.reduceAdd, Nat.reduceSub, Array.replicate_succ, Array.replicate_zero, List.push_toArray, List.append_toArray, List.nil_append, List.cons_append]
  refine wpIn_wide.2 ?_
  go_wp2_with fail
  (with_reducible refine HVV.out.mono ?_)
  rintro e w1 ⟨rfl, hd⟩
  have HB1 := Aside0.mk (show Below w.heap.size w w1 from below_step (below_alloc (below_alloc (below_alloc (Below.refl _ _) _) _) _) hd.below)
  have HX0 := Aside0.mk (bx_below (((Boxed.new w 33 (.slice none 0 0)).alloc (.cells #[.int .i64 0] 3)).alloc (.cells #[.int .i64 0] 3)) hd.below)
  have HX1 := Aside0.mk (bx_below ((Boxed.new (w.alloc (.cells #[.slice none 0 0] 33)) 3 (.int .i64 0)).alloc (.cells #[.int .i64 0] 3)) hd.below)
  have HX2 := Aside0.mk (bx_below (Boxed.new ((w.alloc (.cells #[.slice none 0 0] 33)).alloc (.cells #[.int .i64 0] 3)) 3 (.int .i64 0)) hd.below)
  rw [World.size_alloc] at HX1
  rw [World.size_alloc, World.size_alloc] at HX2
  have HSZ := Aside0.mk (show w1.heap.size = w.heap.size + 3 by obtain ⟨nd, e⟩ := hd; rw [e]; simp)
  clear hd
  go_wp2
  rw [HSZ.out]
  obtain ⟨Wl, hWl⟩ : ∃ Wl, ((w1.alloc (.cells #[.int .i64 (blk : Int), .slice A f.length c, .int .i64 0, .slice none 0 0, .bool false] 75)).alloc (.cells #[.pointer (some ⟨w.heap.size + 3, 0, none⟩)] 73)) = Wl := ⟨_, rfl⟩
  have hzl : Wl.heap.size = w.heap.size + 5 := by rw [← hWl, World.size_alloc, World.size_alloc, HSZ.out]
  have hx0 : Boxed Wl w.heap.size 33 (.slice none 0 0) := by rw [← hWl]; exact (HX0.out.alloc _).alloc _
  have hx1 : Boxed Wl (w.heap.size + 1) 3 (.int .i64 0) := by rw [← hWl]; exact (HX1.out.alloc _).alloc _
  have hx2 : Boxed Wl (w.heap.size + 1 + 1) 3 (.int .i64 0) := by rw [← hWl]; exact (HX2.out.alloc _).alloc _
  have hxr : RdAt Wl (w.heap.size + 3) blk A f.length c 0 (.slice none 0 0) false := by
    have := World.alloc_heap_new w1 (.cells #[.int .i64 (blk : Int), .slice A f.length c, .int .i64 0, .slice none 0 0, .bool false] 75)
    rw [HSZ.out] at this
    rw [← hWl]; exact (Below.heap_alloc _ _ _ (by rw [World.size_alloc, HSZ.out]; omega)).trans this
  have hxp : Boxed Wl (w.heap.size + 3 + 1) 73 (.pointer (some ⟨w.heap.size + 3, 0, none⟩)) := by
    have := Boxed.new (w1.alloc (.cells #[.int .i64 (blk : Int), .slice A f.length c, .int .i64 0, .slice none 0 0, .bool false] 75)) 73 (.pointer (some ⟨w.heap.size + 3, 0, none⟩))
    rw [World.size_alloc, HSZ.out] at this
    rw [← hWl]; exact this
  have hbl : Below w.heap.size w Wl := by rw [← hWl]; exact below_alloc (below_alloc HB1.out _) _
  rw [hWl]
  clear hWl
  have HBL := Aside0.mk hbl
  refine (wpIn_wide (n := 5)).1 ?_
  refine range_st (n := 5) (by decide) (gf := 33) (lb := #[.pointer (some ⟨w.heap.size + 3 + 1, 0, none⟩), .pointer (some ⟨w.heap.size + 1 + 1, 0, none⟩)]) rfl (enters_of Tryd.func33 (by kernel_rfl) rfl)
    (M := fun k => k = w.heap.size + 3 ∨ k = w.heap.size + 1 + 1) (V := fun k => k = w.heap.size ∨ k = w.heap.size + 1) (by rintro k (h | h) <;> omega) (fun _ => rfl)
    (read1_seq (5 - 1) (w.heap.size + 3) (w.heap.size + 3 + 1) (w.heap.size + 1 + 1) Wl.heap.size blk A c f w Wl (fun k => k = w.heap.size ∨ k = w.heap.size + 1) outs how h1 h2 hxr hxp hx2 HC.out HCC.out HBY.out HLEN.out hbl HT.out (by omega) (by omega) (by rintro k (h | h) <;> omega) (by omega) (by omega) (by omega) rfl HRD.out)
    (RdI w w.heap.size Wl.heap.size) (fun _ _ _ => False) (rdI_own w _ _ (by omega)) (fun _ _ _ _ _ hs _ _ => hs) (rdI_chg w _ _ _ (by rintro k (h | h) <;> omega)) (fun _ _ _ _ hs _ => hs)
    (fun x X Z row h hg hr => R_others rfl h hg (fun r e => (hr r e).2)) (fun xs X l' o' h hle => ⟨h.1, h.2.kept (grownBy_putObj' X l' o') (fun e => by cases e; omega)⟩)
    ⟨Nat.le_refl _, ⟨_, hx0, Kd.R_nil _ _ _ _ _⟩, hx1, Recs.nil _ _, hbl⟩ (fun x => { tmps := #[.int .i64 (blk : Int), .slice A f.length c, undef, undef, .pointer (some ⟨w.heap.size, 0, none⟩), .pointer (some ⟨w.heap.size + 1, 0, none⟩), .pointer (some ⟨w.heap.size + 1 + 1, 0, none⟩), .int .i64 0, .pointer (some ⟨w.heap.size + 3 + 1, 0, none⟩), .func (.func 33) #[] #[.pointer (some ⟨w.heap.size + 3 + 1, 0, none⟩), .pointer (some ⟨w.heap.size + 1 + 1, 0, none⟩)], .int .i64 (x.1 : Int), x.2.2.1, .int .i64 (blk : Int), .bool true, .bool false, .int .i64 (blk : Int), .slice A f.length c, .agg #[.int .i64 (blk : Int), .slice A f.length c, .int .i64 0, .slice none 0 0, .bool false], .pointer (some ⟨w.heap.size + 3, 0, none⟩), .func (.func 33) #[] #[.pointer (some ⟨w.heap.size + 3 + 1, 0, none⟩), .pointer (some ⟨w.heap.size + 1 + 1, 0, none⟩)], .func (.func 33) #[] #[.pointer (some ⟨w.heap.size + 3 + 1, 0, none⟩), .pointer (some ⟨w.heap.size + 1 + 1, 0, none⟩)], .int .i64 (x.1 : Int), x.2.2.1, undef, undef, undef, undef, undef, undef, undef, undef], defers := [] }) ?assign ?body ?done ?stop
  case assign =>
    intro l x X K hK
    simp only [encY]
    gi_wp2
    exact hK
  case body =>
    rintro l' pre ⟨p, d, v, N⟩ X hl' hsz ⟨hs1, ⟨vr, hv, hrow0⟩, he, hrecs, hbw⟩ ⟨Yw, ⟨hy1, _, _, hyr, _⟩, hyN⟩ hok hsp
    have hok' : Kd.R (Kd.int .u8) 5 X N (fun _ => True) v d := hok
    obtain ⟨Ax, cx, rfl⟩ := Kd.R_slice hok'
    have hyN' : Yw.heap.size ≤ N := hyN
    have hrow : X.ownsRow Wl.heap.size 22 1 vr pre.length (encs (fun x : Option Addr × Nat × Nat => Value.slice x.1 x.2.1 x.2.2) (pre.map hdY)) := by
      have := Kd.own_of_R hrow0
      rwa [List.length_map] at this
    have hpl : pre.length + 1 ≤ 1099511627776 := by
      have h3 := hsp.length_le
      rw [List.length_map, List.length_append] at h3
      have := HOL.out
      simp at h3
      omega
    have hc1 := hv.cell
    have hinfo : (Tryd.prog.info? 22).map (fun i => (i.zero, i.size, i.bytes)) = some (some (.slice none 0 0), 1, 24) := by kernel_rfl
    obtain ⟨i0, hi, hz0, hz1, hz2⟩ := info_parts hinfo
    have HOK := Aside0.mk hok'
    have HRECS := Aside0.mk hrecs
    have HYR := Aside0.mk hyr
    have HBW2 := Aside0.mk hbw
    have hapart : ∀ i, i < pre.length → ∀ k, (valY pre i).ownBlock = some k → (Value.slice Ax d.length cx).ownBlock ≠ some k := by
      intro i hi k hk he'
      have h3 := Kd.R_lt (hyr.rows i hi) k hk
      have h4 := Kd.R_base hok' k he'
      omega
    have HAP := Aside0.mk hapart
    have hN0 : Wl.heap.size ≤ N := Nat.le_trans hy1 hyN'
    clear hok hok' hrecs hyr hbw hapart hinfo
    gi_wp2_with (gi_at_builtin; refine wpListIn_append_own _ rfl _ _ 33 rfl Wl.heap.size 22 i0 _ 1 24 Tryd.underlying33 hi hz0 hz1 hz2 rfl (by decide) _ _ _ rfl (hrow.alloc _) ⟨X.heap.size, 0, none⟩ 1 1 [.slice Ax d.length cx] rfl rfl (cell_one_new _ _ _) (by simp [Value.oneCell']) (by unfold maxLen; omega) (by omega) (by rw [World.size_alloc]; omega) ?_; intro v' W1 hown' hgrow _; obtain ⟨g', cap', rfl⟩ := ownsRow_succ hown'; have hv1 := (hv.alloc _).kept hgrow (hv.not_row (by decide) hrow); have he1 := (he.alloc _).kept hgrow (he.not_row (by decide) hrow); have hq1 := hv1.cell; have hq2 := hv1.frozen; have hq3 := he1.cell; have hq4 := he1.frozen)
    rw [← hzl]
    have hw1 : X.heap.size + 1 ≤ W1.heap.size := by have := hgrow.size; rwa [World.size_alloc] at this
    have hoff : ∀ k, vr.ownBlock = some k → Wl.heap.size ≤ k := Kd.R_base hrow0
    have hty : ∀ k, vr.ownBlock = some k → ∃ cells, (X.alloc (.cells #[.slice Ax d.length cx] 22)).heap[k]? = some (.cells cells 22 (0, 0)) := Kd.R_typed (Kd.R_alloc hrow0 _)
    have hstep : ∀ (v : Value) (xs : List Int), Kd.R (Kd.int .u8) 5 X Wl.heap.size (fun _ => True) v xs → Kd.R (Kd.int .u8) 5 ((W1.setCell ⟨w.heap.size, 0, none⟩ (.slice (some ⟨g', 0, none⟩) (pre.length + 1) cap')).setCell ⟨w.heap.size + 1, 0, none⟩ (.int .i64 (p : Int))) Wl.heap.size (fun _ => True) v xs :=
      fun v xs h => Kd.R_set (Kd.R_set (Kd.R_over' (Kd.R_alloc h _) hty (by decide) hgrow) hv1 (by decide) 0 _) (he1.other (by omega) _) (by decide) 0 _
    have hrow2 : Kd.R hdK 22 W1 Wl.heap.size (fun _ => True) (.slice (some ⟨g', 0, none⟩) (pre.length + 1) cap') ((pre ++ [(p, d, Value.slice Ax d.length cx, N)]).map hdY) := by
      refine Kd.R_of_own (h1 := fun _ => rfl) ?_ (fun _ _ => trivial)
      rw [List.map_append, List.length_append, List.length_map]
      have e4 : encs (fun x : Option Addr × Nat × Nat => Value.slice x.1 x.2.1 x.2.2) (pre.map hdY ++ [(p, d, Value.slice Ax d.length cx, N)].map hdY) = encs (fun x : Option Addr × Nat × Nat => Value.slice x.1 x.2.1 x.2.2) (pre.map hdY) ++ [.slice Ax d.length cx] := by simp [encs, hdY]
      rw [e4]
      exact hown'
    refine ⟨KeepsOthers.from ((((KeepsOthers.alloc X _).trans (KeepsOthers.of_grownBy hgrow fun j o ej hj => ?_)).trans (KeepsOthers.setCell _ _ _)).trans (KeepsOthers.setCell _ _ _)) _, ((((Chg.below (below_alloc (Below.refl _ _) _)).trans (Chg.grown hgrow (fun k e => .inr (hoff k e)))).trans (Chg.set _ W1 w.heap.size 0 _ (.inl (.inl rfl)))).trans (Chg.set _ _ (w.heap.size + 1) 0 _ (.inl (.inr rfl)))), ?_, ⟨_, (hv1.set (.slice (some ⟨g', 0, none⟩) (pre.length + 1) cap')).other (by omega) _, Kd.R_set (Kd.R_set hrow2 hv1 (by decide) 0 _) (he1.other (by omega) _) (by decide) 0 _⟩, ?_, (HRECS.out.step hstep).snoc (hstep _ _ (R_raise1 HOK.out hN0)) HAP.out, ?_⟩
    · obtain ⟨cells, hc⟩ := hty j ej
      rw [hc] at hj; cases hj; rfl
    · have s1 := (KeepsWalks.setCell W1 ⟨w.heap.size, 0, none⟩ (.slice (some ⟨g', 0, none⟩) (pre.length + 1) cap')).size
      have s2 := (KeepsWalks.setCell (W1.setCell ⟨w.heap.size, 0, none⟩ (.slice (some ⟨g', 0, none⟩) (pre.length + 1) cap')) ⟨w.heap.size + 1, 0, none⟩ (.int .i64 (p : Int))).size
      omega
    · rw [endY_snoc]
      exact (he1.other (by omega) _).set _
    · exact HBW2.out.trans (((((Below.refl w.heap.size X).alloc (by omega) _).grown hgrow (by rw [World.size_alloc]; omega) (fun j ej => by have := hoff j ej; omega)).setCell (p := ⟨w.heap.size, 0, none⟩) (Nat.le_refl _) _).setCell (p := ⟨w.heap.size + 1, 0, none⟩) (Nat.le_succ _) _)
  case done =>
    rintro D ys X hD ⟨hm, hhow⟩ ⟨_, ⟨vr, hv, hrow⟩, he, hrecs, hbw⟩ hK
    obtain ⟨Av, cv, rfl⟩ := Kd.R_slice hrow
    rw [List.length_map] at hv hrow
    generalize hyn : ys.length = yn at hv hrow
    have HYN := Aside0.mk hyn
    clear hyn
    have HM := Aside0.mk hm
    have HV := Aside0.mk hv
    have HROW := Aside0.mk hrow
    have HE := Aside0.mk he
    have HRECS := Aside0.mk hrecs
    have HBW := Aside0.mk hbw
    have HK := Aside0.mk hK
    have HW := Aside0.mk hhow
    have q1 := hv.cell
    have q2 := hv.frozen
    have q3 := he.cell
    have q4 := he.frozen
    have q5 := hhow.cell
    have q6 := hhow.frozen
    clear hm hv hrow he hrecs hbw hK hhow
    generalize hee : endY ys = E at *
    have HEE := Aside0.mk hee
    clear hee
    gi_wp2
    go_wp2
    go_region
    all_goals go_wp2
    have k0 : ∀ (Z : World) (v : Value) (xs : List Int), Boxed Z w.heap.size 33 (.slice Av yn cv) → Kd.R (Kd.int .u8) 5 Z Wl.heap.size (fun _ => True) v xs → Kd.R (Kd.int .u8) 5 (Z.setCell ⟨w.heap.size, 0, none⟩ (.slice Av yn cv)) Wl.heap.size (fun _ => True) v xs := fun Z v xs hb h => Kd.R_set h hb (by decide) 0 _
    have b1 := HV.out.set (.slice Av yn cv)
    have b2 := HE.out.other (show w.heap.size + 1 ≠ w.heap.size by omega) (.slice Av yn cv)
    have b3 := HW.out.other (show w.heap.size + 1 + 1 ≠ w.heap.size by omega) (.slice Av yn cv)
    have d1 := b1.other (show w.heap.size ≠ w.heap.size + 1 by omega) (.int .i64 E)
    have d2 := b2.set (.int .i64 E)
    have d3 := b3.other (show w.heap.size + 1 + 1 ≠ w.heap.size + 1 by omega) (.int .i64 E)
    have e1 := d1.other (show w.heap.size ≠ w.heap.size + 1 + 1 by omega) (.int .i64 (how : Int))
    have e2 := d2.other (show w.heap.size + 1 ≠ w.heap.size + 1 + 1 by omega) (.int .i64 (how : Int))
    have e3 := d3.set (.int .i64 (how : Int))
    have r1 := Kd.R_set (Kd.R_set (Kd.R_set HROW.out HV.out (by decide) 0 (.slice Av yn cv)) b2 (by decide) 0 (.int .i64 E)) d3 (by decide) 0 (.int .i64 (how : Int))
    have r2 := HRECS.out.step (fun v xs h => Kd.R_set (Kd.R_set (Kd.R_set h HV.out (by decide) 0 (.slice Av yn cv)) b2 (by decide) 0 (.int .i64 E)) d3 (by decide) 0 (.int .i64 (how : Int)))
    have g1 : Below w.heap.size w (((X.setCell ⟨w.heap.size, 0, none⟩ (.slice Av yn cv)).setCell ⟨w.heap.size + 1, 0, none⟩ (.int .i64 E)).setCell ⟨w.heap.size + 1 + 1, 0, none⟩ (.int .i64 (how : Int))) :=
      ((HBW.out.setCell (p := ⟨w.heap.size, 0, none⟩) (Nat.le_refl _) _).setCell (p := ⟨w.heap.size + 1, 0, none⟩) (Nat.le_succ _) _).setCell (p := ⟨w.heap.size + 1 + 1, 0, none⟩) (by show w.heap.size ≤ w.heap.size + 1 + 1; omega) _
    have hD3 : (((X.setCell ⟨w.heap.size, 0, none⟩ (.slice Av yn cv)).setCell ⟨w.heap.size + 1, 0, none⟩ (.int .i64 E)).setCell ⟨w.heap.size + 1 + 1, 0, none⟩ (.int .i64 (how : Int))).heap[D]? = some (.deferred (some [])) :=
      (Below.heap_setCell _ _ _ D (by show D ≠ w.heap.size + 1 + 1; omega)).trans ((Below.heap_setCell _ _ _ D (by show D ≠ w.heap.size + 1; omega)).trans ((Below.heap_setCell _ _ _ D (by show D ≠ w.heap.size; omega)).trans HK.out))
    clear b1 b2 b3 d1 d2 d3 k0
    generalize (((X.setCell ⟨w.heap.size, 0, none⟩ (.slice Av yn cv)).setCell ⟨w.heap.size + 1, 0, none⟩ (.int .i64 E)).setCell ⟨w.heap.size + 1 + 1, 0, none⟩ (.int .i64 (how : Int))) = Z at *
    have hDz : Z.drew.heap[D]? = some (.deferred (some [])) := hD3
    refine ⟨by simp, .inl ⟨_, _, rfl, run_takeDeferred hDz, ?_⟩⟩
    have gz := grownBy_putObj' Z.drew D (.deferred none)
    have nz : ∀ r, some D = some r → ∃ o : Obj, Z.drew.heap[r]? = some o ∧ o.isCells = false := fun r e => by cases e; exact ⟨_, hDz, rfl⟩
    have bz : ∀ (B : Nat) (tt : TypeId) (u : Value), D ≠ B → Boxed Z B tt u → Boxed (Z.drew.putObj D (.deferred none)) B tt u := fun B tt u hne h => (show Boxed Z.drew B tt u from h).kept gz (fun e => hne (by cases e; rfl))
    refine ⟨_, results_ccct rfl _ _ w.heap.size (w.heap.size + 1) (w.heap.size + 1 + 1) (.slice Av yn cv) (.int .i64 E) (.int .i64 (how : Int)) rfl rfl rfl (bz _ _ _ (by omega) e1).cell (bz _ _ _ (by omega) e2).cell (bz _ _ _ (by omega) e3).cell Tryd.underlying33 Tryd.underlying3 Tryd.underlying3, ?_⟩
    refine ⟨.slice Av yn cv, ys, ?_, HM.out, ?_, ?_, ?_⟩
    · rw [HEE.out]; rfl
    · exact Kd.R_lower (R_others rfl (Kd.R_drew r1) gz nz) (by omega)
    · have r3 := r2.step (fun v xs h => R_others rfl (Kd.R_drew h) gz nz)
      exact ⟨fun i hi => R_raise1 (r3.rows i hi) (by omega), r3.apart⟩
    · exact g1.drew.trans (belowK_b (w := w) (Nat.le_refl _) Z.drew D _ _ (by omega) hDz rfl rfl)
  case stop =>
    rintro D c' pre X _ _ h _
    exact h.elim

end Go.Proofs.YtmpkigambfghgaaDoor.G

/- Contracts typed by hand: journal: what was written is read; cut anywhere; a byte turned -/
namespace Go.Proofs.YtmpkigambfghgaaDoor.G
open Go.RowKit Go.Proofs.YtmpkigambfghgaaDoorW.PrintWords Go.Proofs.YtmpkigambfghgaaDoorW.PrintLast Go.Proofs.YtmpkigambfghgaaDoorW.PrintMore
attribute [local go_sem] max2_int min2_int max_two min_two max_three min_three max_four min_four
set_option linter.unusedVariables false
set_option linter.unusedSimpArgs false

/-! journal: what was written is read; cut anywhere; a byte turned -/
theorem rdn_app (a b : List Int) (i : Nat) : rdn (a ++ b) (a.length + i) = rdn b i := by
  unfold rdn
  rw [List.getD_eq_getElem?_getD, List.getD_eq_getElem?_getD, List.getElem?_append_right (by omega), Nat.add_sub_cancel_left]
theorem rdn_left (a b : List Int) (i : Nat) (h : i < a.length) : rdn (a ++ b) i = rdn a i := by
  unfold rdn
  rw [List.getD_eq_getElem?_getD, List.getD_eq_getElem?_getD, List.getElem?_append_left h]
theorem rdn_zeros (n i : Nat) (h : i < n) : rdn (List.replicate n 0) i = 0 := by
  unfold rdn
  rw [List.getD_eq_getElem?_getD, List.getElem?_replicate, if_pos h]
  rfl
/-- a piece's head, byte by byte -/
theorem head_at (pre tail : List Int) (a b c e n0 n1 k : Int) (f : List Int) (hf : f = pre ++ (a :: b :: c :: e :: n0 :: n1 :: k :: tail)) :
    le4N f pre.length = a.toNat + 256 * b.toNat + 65536 * c.toNat + 16777216 * e.toNat ∧ nN f pre.length = n0.toNat + 256 * n1.toNat ∧ rdn f (pre.length + 6) = k.toNat ∧ f.drop (pre.length + 7) = tail ∧ f.length = pre.length + 7 + tail.length := by
  subst hf
  have h0 : ∀ g : List Int, rdn (pre ++ g) pre.length = rdn g 0 := fun g => rdn_app pre g 0
  refine ⟨?_, ?_, ?_, ?_, ?_⟩
  · unfold le4N; rw [h0, rdn_app, rdn_app, rdn_app]; rfl
  · unfold nN; rw [rdn_app, rdn_app]; rfl
  · rw [rdn_app]; rfl
  · rw [List.drop_append]; simp
  · simp; omega
theorem piece_cons (kind : Nat) (d : List Int) : pieceJ kind d = ((sumN kind d % 256 : Nat) : Int) :: ((sumN kind d / 256 % 256 : Nat) : Int) :: ((sumN kind d / 65536 % 256 : Nat) : Int) :: ((sumN kind d / 16777216 % 256 : Nat) : Int) :: ((d.length % 256 : Nat) : Int) :: ((d.length / 256 % 256 : Nat) : Int) :: (kind : Int) :: d := rfl
theorem piece_at (pre rest d : List Int) (kind : Nat) (hd : d.length < 65536) (f : List Int) (hf : f = pre ++ (pieceJ kind d ++ rest)) :
    le4N f pre.length = sumN kind d ∧ nN f pre.length = d.length ∧ rdn f (pre.length + 6) = kind ∧ dataN f pre.length = d ∧ f.length = pre.length + 7 + d.length + rest.length := by
  rw [piece_cons] at hf
  obtain ⟨h1, h2, h3, h4, h5⟩ := head_at pre (d ++ rest) _ _ _ _ _ _ _ f hf
  have hs := sumN_lt kind d
  have e2 : nN f pre.length = d.length := by rw [h2, Int.toNat_natCast, Int.toNat_natCast]; omega
  refine ⟨?_, e2, ?_, ?_, ?_⟩
  · rw [h1, Int.toNat_natCast, Int.toNat_natCast, Int.toNat_natCast, Int.toNat_natCast]; omega
  · rw [h3, Int.toNat_natCast]
  · unfold dataN; rw [h4, e2, List.take_left']; rfl
  · rw [h5, List.length_append]; omega
theorem room_at (blk p : Nat) (h : 32 ≤ blk) : blk - (p + padJ blk (p % blk)) % blk = mostJ blk (p % blk) + 7 ∧ (p + padJ blk (p % blk) + 7 + mostJ blk (p % blk)) % blk = 0 ∧ (padJ blk (p % blk) ≠ 0 → padJ blk (p % blk) = blk - p % blk ∧ blk - p % blk < 7) ∧ (padJ blk (p % blk) = 0 → 7 ≤ blk - p % blk) := by
  have hm := Nat.mod_lt p (show 0 < blk by omega)
  have e := mod_next blk (p % blk) hm h
  have hp := Nat.div_add_mod p blk
  generalize p % blk = m at *
  generalize p / blk = t at *
  subst hp
  refine ⟨?_, ?_, ?_, ?_⟩
  · rw [Nat.add_assoc, Nat.mul_add_mod]
    unfold padJ mostJ
    split
    · rw [show m + (blk - m) = blk by omega, Nat.mod_self]; omega
    · rw [Nat.add_zero, Nat.mod_eq_of_lt hm]; omega
  · rw [show blk * t + m + padJ blk m + 7 + mostJ blk m = blk * t + (m + padJ blk m + 7 + mostJ blk m) by omega, Nat.mul_add_mod, e]
  · unfold padJ; split <;> omega
  · unfold padJ; split <;> omega
/-- noughts ahead of a piece are passed -/
theorem pass_pad (blk : Nat) (h : 32 ≤ blk) (pre g : List Int) (hg : g ≠ []) (d : List Int) (o : Bool) (l hw) (f : List Int) (hf : f = pre ++ (List.replicate (padJ blk (pre.length % blk)) 0 ++ g)) (hr : Reads blk f (pre.length + padJ blk (pre.length % blk)) d o l hw) : Reads blk f pre.length d o l hw := by
  obtain ⟨_, _, h3, h4⟩ := room_at blk pre.length h
  generalize hpad : padJ blk (pre.length % blk) = pad at *
  by_cases hz : pad = 0
  · subst hz; exact hr
  · obtain ⟨e1, e2⟩ := h3 hz
    have hgl : 0 < g.length := List.length_pos_iff.2 hg
    have hlen : f.length = pre.length + pad + g.length := by rw [hf, List.length_append, List.length_append, List.length_replicate]; omega
    have hmin : min (pre.length + (blk - pre.length % blk)) f.length = pre.length + pad := by omega
    refine Reads.pad _ _ _ _ _ (by omega) e2 ?_ (by rw [hmin]; exact hr)
    rw [hmin]
    intro i i1 i2
    obtain ⟨j, rfl⟩ : ∃ j, i = pre.length + j := ⟨i - pre.length, by omega⟩
    rw [hf, rdn_app, rdn_left _ _ _ (by rw [List.length_replicate]; omega), rdn_zeros _ _ (by omega)]
theorem bent_not (f : List Int) (p : Nat) (d d0 : List Int) (kind : Nat) (first last : Bool) (hk : kind = kindJ first last) (h1 : le4N f p = sumN kind d0) (h2 : nN f p = d0.length) (h3 : rdn f (p + 6) = kind) (h4 : dataN f p = d0) (hd : d.length + d0.length ≤ 2097152) : bentN f p d (!first) = false := by
  unfold bentN
  rw [h1, h2, h3, h4, hk]
  have : ¬ d.length + d0.length > 2097152 := by omega
  cases first <;> cases last <;> simp [kindJ, this]
theorem read_add (blk : Nat) (h : 32 ≤ blk) (h2 : blk ≤ 32768) : ∀ (k : Nat) (pre : List Int) (first : Bool) (r d rest : List Int) (l : List (Nat × List Int)) (hw : Nat) (f : List Int), Enough blk k (pre.length % blk) r.length → d.length + r.length ≤ 2097152 →
    f = pre ++ (addJ blk k (pre.length % blk) first r ++ rest) → Reads blk f (pre.length + (addJ blk k (pre.length % blk) first r).length) [] false l hw →
    Reads blk f pre.length d (!first) ((pre.length + (addJ blk k (pre.length % blk) first r).length, d ++ r) :: l) hw
  | 0, pre, _, r, _, _, _, _, _, hE, _, _, _ => by unfold Enough at hE; split at hE <;> omega
  | k + 1, pre, first, r, d, rest, l, hw, f, hE, hd, hf, hr => by
    obtain ⟨r1, r2, r3, r4⟩ := room_at blk pre.length h
    have hpm := pad_most h (pre.length % blk)
    have hnx := fun hn => hE.next (p := pre.length % blk) h hn
    unfold addJ at hf hr ⊢
    generalize hpad : padJ blk (pre.length % blk) = pad at *
    generalize hmost : mostJ blk (pre.length % blk) = most at *
    by_cases hlast : r.length ≤ most
    · rw [if_pos hlast] at hf hr ⊢
      have hr7 : r.length < 65536 := by omega
      have hf2 : f = (pre ++ List.replicate pad 0) ++ (pieceJ (kindJ first true) r ++ rest) := by rw [hf]; simp only [List.append_assoc]
      obtain ⟨a1, a2, a3, a4, a5⟩ := piece_at _ rest r (kindJ first true) hr7 f hf2
      rw [List.length_append, List.length_replicate] at a1 a2 a3 a4 a5
      refine pass_pad blk h pre (pieceJ (kindJ first true) r ++ rest) (by simp [piece_cons]) d (!first) _ hw f (by rw [hpad, hf]; simp only [List.append_assoc]) ?_
      rw [hpad]
      rw [List.length_append, List.length_replicate, piece_len] at hr ⊢
      have hw2 := Reads.whole (blk := blk) (f := f) (pre.length + pad) d (!first) l hw (by rw [a2]; omega) (by omega) (by rw [a2]; omega) (bent_not f _ d r _ first true rfl a1 a2 a3 a4 hd) (by rw [a3]; cases first <;> simp [kindJ]) (by rw [a2, show pre.length + pad + 7 + r.length = pre.length + (pad + (7 + r.length)) by omega]; exact hr)
      rw [a2, a4, show pre.length + pad + 7 + r.length = pre.length + (pad + (7 + r.length)) by omega] at hw2
      exact hw2
    · rw [if_neg hlast] at hf hr ⊢
      obtain ⟨d0, hd0⟩ : ∃ d0, r.take most = d0 := ⟨_, rfl⟩
      have hd0l : d0.length = most := by rw [← hd0, List.length_take]; omega
      have hr7 : d0.length < 65536 := by omega
      rw [hd0] at hf hr ⊢
      have hf2 : f = (pre ++ List.replicate pad 0) ++ (pieceJ (kindJ first false) d0 ++ (addJ blk k 0 false (r.drop most) ++ rest)) := by rw [hf]; simp only [List.append_assoc]
      obtain ⟨a1, a2, a3, a4, a5⟩ := piece_at _ _ d0 (kindJ first false) hr7 f hf2
      rw [List.length_append, List.length_replicate] at a1 a2 a3 a4 a5
      refine pass_pad blk h pre (pieceJ (kindJ first false) d0 ++ (addJ blk k 0 false (r.drop most) ++ rest)) (by simp [piece_cons]) d (!first) _ hw f (by rw [hpad, hf]; simp only [List.append_assoc]) ?_
      rw [hpad]
      obtain ⟨pre2, hpre2⟩ : ∃ pre2, pre ++ (List.replicate pad 0 ++ pieceJ (kindJ first false) d0) = pre2 := ⟨_, rfl⟩
      have hl2 : pre2.length = pre.length + pad + 7 + most := by rw [← hpre2, List.length_append, List.length_append, List.length_replicate, piece_len]; omega
      have hm2 : pre2.length % blk = 0 := by rw [hl2]; exact r2
      have hE2 := hnx hlast
      have hle : (List.replicate pad (0 : Int) ++ pieceJ (kindJ first false) d0 ++ addJ blk k 0 false (r.drop most)).length = pad + 7 + most + (addJ blk k 0 false (r.drop most)).length := by
        rw [List.length_append, List.length_append, List.length_replicate, piece_len]; omega
      rw [hle] at hr ⊢
      have ih := read_add blk h h2 k pre2 false (r.drop most) (d ++ d0) rest l hw f (by rw [hm2, List.length_drop]; exact hE2) (by rw [List.length_append, List.length_drop]; omega) (by rw [hm2, ← hpre2, hf]; simp only [List.append_assoc]) (by rw [hm2, hl2, show pre.length + pad + 7 + most + (addJ blk k 0 false (r.drop most)).length = pre.length + (pad + 7 + most + (addJ blk k 0 false (r.drop most)).length) by omega]; exact hr)
      rw [hm2, hl2, show pre.length + pad + 7 + most + (addJ blk k 0 false (r.drop most)).length = pre.length + (pad + 7 + most + (addJ blk k 0 false (r.drop most)).length) by omega, List.append_assoc, ← hd0, List.take_append_drop] at ih
      rw [hd0] at ih
      exact Reads.more (blk := blk) (f := f) (pre.length + pad) d (!first) _ hw (by rw [a2]; omega) (by omega) (by rw [a2]; omega) (bent_not f _ d d0 _ first false rfl a1 a2 a3 a4 (by omega)) (by rw [a3]; cases first <;> simp [kindJ]) (by rw [a2, a4, hd0l]; exact ih)
/-- the records of a file, each with the place behind it -/
def outsOf (blk : Nat) (rs : List (List Int)) (j : Nat) : List (Nat × List Int) := (List.range j).map fun i => ((fileOf blk (rs.take (i + 1))).length, rec rs i)
theorem outsOf_succ (blk : Nat) (rs : List (List Int)) (j : Nat) : outsOf blk rs (j + 1) = outsOf blk rs j ++ [((fileOf blk (rs.take (j + 1))).length, rec rs j)] := by
  unfold outsOf
  rw [List.range_succ, List.map_append]
  rfl
theorem read_upto (blk : Nat) (h : 32 ≤ blk) (h2 : blk ≤ 32768) (rs : List (List Int)) (hbulk : bulk rs ≤ 1048576) : ∀ (j : Nat) (f rest : List Int) (l hw), j ≤ rs.length → f = fileOf blk (rs.take j) ++ rest → Reads blk f (fileOf blk (rs.take j)).length [] false l hw → Reads blk f 0 [] false (outsOf blk rs j ++ l) hw
  | 0, f, rest, l, hw, _, hf, hr => hr
  | j + 1, f, rest, l, hw, hj, hf, hr => by
    have hs : fileOf blk (rs.take (j + 1)) = fileOf blk (rs.take j) ++ addR blk ((fileOf blk (rs.take j)).length % blk) (rec rs j) := by rw [take_snoc (by omega), fileOf_snoc]
    have hrl := bulk_rec (rs := rs) (k := j) (by omega)
    rw [outsOf_succ, List.append_assoc]
    refine read_upto blk h h2 rs hbulk j f (addR blk ((fileOf blk (rs.take j)).length % blk) (rec rs j) ++ rest) _ hw (by omega) (by rw [hf, hs, List.append_assoc]) ?_
    have hl : (fileOf blk (rs.take (j + 1))).length = (fileOf blk (rs.take j)).length + (addR blk ((fileOf blk (rs.take j)).length % blk) (rec rs j)).length := by rw [hs, List.length_append]
    rw [hl] at hr ⊢
    have := read_add blk h h2 ((rec rs j).length + 2) (fileOf blk (rs.take j)) true (rec rs j) [] rest l hw f (enough_self _ _ _) (by simp; omega) (by rw [hf, hs, List.append_assoc]; rfl) hr
    exact this
/-- P7.4 -/
theorem read_back (blk : Nat) (h : 32 ≤ blk) (h2 : blk ≤ 32768) (rs : List (List Int)) (hbulk : bulk rs ≤ 1048576) : Reads blk (fileOf blk rs) 0 [] false (outsOf blk rs rs.length) 0 := by
  have := read_upto blk h h2 rs hbulk rs.length (fileOf blk rs) [] [] 0 (Nat.le_refl _) (by rw [List.take_length, List.append_nil]) (by rw [List.take_length]; exact Reads.fin _ _ _ (Nat.le_refl _))
  rw [List.append_nil] at this
  exact this

end Go.Proofs.YtmpkigambfghgaaDoor.G

/- Contracts typed by hand: journal: any beginning of a file; a byte turned -/
namespace Go.Proofs.YtmpkigambfghgaaDoor.G
open Go.RowKit Go.Proofs.YtmpkigambfghgaaDoorW.PrintWords Go.Proofs.YtmpkigambfghgaaDoorW.PrintLast Go.Proofs.YtmpkigambfghgaaDoorW.PrintMore
attribute [local go_sem] max2_int min2_int max_two min_two max_three min_three max_four min_four
set_option linter.unusedVariables false
set_option linter.unusedSimpArgs false

/-! journal: any beginning of a file; a byte turned -/
theorem cut_pad (blk : Nat) (h : 32 ≤ blk) (pre : List Int) (c : Nat) (hc : 0 < c) (hp : c ≤ padJ blk (pre.length % blk)) (d : List Int) (o : Bool) (f : List Int) (hf : f = pre ++ List.replicate c 0) : Reads blk f pre.length d o [] (if o then 1 else 0) := by
  obtain ⟨_, _, h3, h4⟩ := room_at blk pre.length h
  generalize hpad : padJ blk (pre.length % blk) = pad at *
  obtain ⟨e1, e2⟩ := h3 (by omega)
  have hlen : f.length = pre.length + c := by rw [hf, List.length_append, List.length_replicate]
  have hmin : min (pre.length + (blk - pre.length % blk)) f.length = pre.length + c := by omega
  refine Reads.pad _ _ _ _ _ (by omega) e2 ?_ (by rw [hmin]; exact Reads.fin _ _ _ (by omega))
  rw [hmin]
  intro i i1 i2
  obtain ⟨j, rfl⟩ : ∃ j, i = pre.length + j := ⟨i - pre.length, by omega⟩
  rw [hf, rdn_app, rdn_zeros _ _ (by omega)]
theorem cut_piece (blk : Nat) (h : 32 ≤ blk) (pre : List Int) (kind : Nat) (hk : 1 ≤ kind ∧ kind ≤ 4) (d0 : List Int) (hd : d0.length < 65536) (hroom : d0.length + 7 ≤ blk - pre.length % blk) (c : Nat) (hc : 0 < c) (hcp : c < 7 + d0.length) (d : List Int) (o : Bool) (f : List Int) (hf : f = pre ++ (pieceJ kind d0).take c) : Reads blk f pre.length d o [] 1 := by
  have hlen : f.length = pre.length + c := by rw [hf, List.length_append, List.length_take, piece_len]; omega
  by_cases h7 : c < 7
  · exact Reads.short _ _ _ (by omega) (by omega) (by omega)
  · obtain ⟨m, rfl⟩ : ∃ m, c = m + 7 := ⟨c - 7, by omega⟩
    rw [piece_cons] at hf
    simp only [List.take_succ_cons] at hf
    obtain ⟨h1, h2, h3, h4, h5⟩ := head_at pre (d0.take m) _ _ _ _ _ _ _ f hf
    rw [Int.toNat_natCast] at h3
    rw [Int.toNat_natCast, Int.toNat_natCast] at h2
    have e2 : nN f pre.length = d0.length := by omega
    refine Reads.torn _ _ _ (by omega) (by omega) (by omega) (by omega) (by omega) (by omega)
theorem read_cut (blk : Nat) (h : 32 ≤ blk) (h2 : blk ≤ 32768) : ∀ (k : Nat) (pre : List Int) (first : Bool) (r d : List Int) (c : Nat) (f : List Int), Enough blk k (pre.length % blk) r.length → d.length + r.length ≤ 2097152 → c < (addJ blk k (pre.length % blk) first r).length →
    f = pre ++ (addJ blk k (pre.length % blk) first r).take c → ∃ hw, hw ≠ 2 ∧ Reads blk f pre.length d (!first) [] hw
  | 0, pre, _, r, _, _, _, hE, _, _, _ => by unfold Enough at hE; split at hE <;> omega
  | k + 1, pre, first, r, d, c, f, hE, hd, hc, hf => by
    have hfin : ∀ o : Bool, (if o then 1 else 0) ≠ 2 := by intro o; cases o <;> decide
    by_cases hc0 : c = 0
    · subst hc0
      exact ⟨_, hfin _, Reads.fin _ _ _ (by rw [hf]; simp)⟩
    obtain ⟨r1, r2, r3, r4⟩ := room_at blk pre.length h
    have hpm := pad_most h (pre.length % blk)
    have hnx := fun hn => hE.next (p := pre.length % blk) h hn
    unfold addJ at hf hc
    by_cases hcp : c ≤ padJ blk (pre.length % blk)
    · refine ⟨_, hfin _, cut_pad blk h pre c (by omega) hcp d _ f ?_⟩
      rw [hf]
      split
      · rw [List.take_append_of_le_length (by rw [List.length_replicate]; exact hcp), List.take_replicate, Nat.min_eq_left hcp]
      · rw [List.append_assoc, List.take_append_of_le_length (by rw [List.length_replicate]; exact hcp), List.take_replicate, Nat.min_eq_left hcp]
    have hpassp := fun (g : List Int) (hg : g ≠ []) (hw : Nat) => pass_pad blk h pre g hg d (!first) [] hw f
    generalize hpad : padJ blk (pre.length % blk) = pad at *
    generalize hmost : mostJ blk (pre.length % blk) = most at *
    obtain ⟨c, rfl⟩ : ∃ c', c = pad + c' := ⟨c - pad, by omega⟩
    have htk : ∀ g : List Int, (List.replicate pad (0 : Int) ++ g).take (pad + c) = List.replicate pad 0 ++ g.take c := by
      intro g
      rw [List.take_append, List.length_replicate, Nat.add_sub_cancel_left, List.take_of_length_le (by rw [List.length_replicate]; omega)]
    have hplen : (pre ++ List.replicate pad (0 : Int)).length = pre.length + pad := by rw [List.length_append, List.length_replicate]
    by_cases hlast : r.length ≤ most
    · rw [if_pos hlast] at hf hc
      rw [List.length_append, List.length_replicate, piece_len] at hc
      rw [htk] at hf
      refine ⟨1, by decide, hpassp ((pieceJ (kindJ first true) r).take c) ?_ 1 hf ?_⟩
      · rw [piece_cons]; obtain ⟨c, rfl⟩ : ∃ m, c = m + 1 := ⟨c - 1, by omega⟩; simp
      · rw [← hplen]
        exact cut_piece blk h _ _ (kindJ_range first true) r (by omega) (by rw [hplen]; omega) c (by omega) (by omega) d _ f (by rw [hf, List.append_assoc])
    · rw [if_neg hlast] at hf hc
      obtain ⟨d0, hd0⟩ : ∃ d0, r.take most = d0 := ⟨_, rfl⟩
      have hd0l : d0.length = most := by rw [← hd0, List.length_take]; omega
      rw [hd0] at hf hc
      rw [List.length_append, List.length_append, List.length_replicate, piece_len] at hc
      rw [List.append_assoc, htk] at hf
      by_cases hcq : c < 7 + most
      · rw [List.take_append_of_le_length (by rw [piece_len]; omega)] at hf
        refine ⟨1, by decide, hpassp ((pieceJ (kindJ first false) d0).take c) ?_ 1 hf ?_⟩
        · rw [piece_cons]; obtain ⟨c, rfl⟩ : ∃ m, c = m + 1 := ⟨c - 1, by omega⟩; simp
        · rw [← hplen]
          exact cut_piece blk h _ _ (kindJ_range first false) d0 (by omega) (by rw [hplen]; omega) c (by omega) (by omega) d _ f (by rw [hf, List.append_assoc])
      · obtain ⟨c, rfl⟩ : ∃ c', c = (pieceJ (kindJ first false) d0).length + c' := ⟨c - (7 + most), by rw [piece_len]; omega⟩
        rw [List.take_append, Nat.add_sub_cancel_left, List.take_of_length_le (by omega)] at hf
        rw [piece_len] at hc
        have hf2 : f = (pre ++ List.replicate pad 0) ++ (pieceJ (kindJ first false) d0 ++ (addJ blk k 0 false (r.drop most)).take c) := by rw [hf]; simp only [List.append_assoc]
        obtain ⟨a1, a2, a3, a4, a5⟩ := piece_at _ _ d0 (kindJ first false) (by omega) f hf2
        rw [hplen] at a1 a2 a3 a4 a5
        obtain ⟨pre2, hpre2⟩ : ∃ pre2, pre ++ (List.replicate pad 0 ++ pieceJ (kindJ first false) d0) = pre2 := ⟨_, rfl⟩
        have hl2 : pre2.length = pre.length + pad + 7 + most := by rw [← hpre2, List.length_append, List.length_append, List.length_replicate, piece_len]; omega
        have hm2 : pre2.length % blk = 0 := by rw [hl2]; exact r2
        have hE2 := hnx hlast
        obtain ⟨hw, hw2, ih⟩ := read_cut blk h h2 k pre2 false (r.drop most) (d ++ d0) c f (by rw [hm2, List.length_drop]; exact hE2) (by rw [List.length_append, List.length_drop]; omega) (by rw [hm2]; omega) (by rw [hm2, ← hpre2, hf]; simp only [List.append_assoc])
        rw [hl2] at ih
        refine ⟨hw, hw2, hpassp (pieceJ (kindJ first false) d0 ++ (addJ blk k 0 false (r.drop most)).take c) (by simp [piece_cons]) hw hf ?_⟩
        exact Reads.more (blk := blk) (f := f) (pre.length + pad) d (!first) _ hw (by rw [a2]; omega) (by omega) (by rw [a2]; omega) (bent_not f _ d d0 _ first false rfl a1 a2 a3 a4 (by omega)) (by rw [a3]; cases first <;> simp [kindJ]) (by rw [a2, a4, hd0l]; exact ih)
/-- how many records lie whole in so many bytes -/
def wholes (blk : Nat) (rs : List (List Int)) (cut : Nat) : Nat → Nat
  | 0 => 0
  | j + 1 => if (fileOf blk (rs.take (j + 1))).length ≤ cut then j + 1 else wholes blk rs cut j
theorem fileOf_rise (blk : Nat) (h : 32 ≤ blk) (rs : List (List Int)) (j : Nat) (hj : j < rs.length) : (fileOf blk (rs.take j)).length + 7 ≤ (fileOf blk (rs.take (j + 1))).length := by
  rw [take_snoc hj, fileOf_snoc, List.length_append, addR_len]
  have := costR_ge blk h ((fileOf blk (rs.take j)).length % blk) (rec rs j).length
  omega
theorem fileOf_mono (blk : Nat) (h : 32 ≤ blk) (rs : List (List Int)) : ∀ (n j : Nat), j + n ≤ rs.length → (fileOf blk (rs.take j)).length + 7 * n ≤ (fileOf blk (rs.take (j + n))).length
  | 0, j, _ => by simp
  | n + 1, j, hj => by
    have h1 := fileOf_mono blk h rs n j (by omega)
    have h2 := fileOf_rise blk h rs (j + n) (by omega)
    rw [show j + (n + 1) = j + n + 1 by omega]
    omega
theorem wholes_spec (blk : Nat) (h : 32 ≤ blk) (rs : List (List Int)) (cut : Nat) : ∀ j, j ≤ rs.length → (j = rs.length ∨ cut < (fileOf blk (rs.take (j + 1))).length) → wholes blk rs cut j ≤ j ∧ (fileOf blk (rs.take (wholes blk rs cut j))).length ≤ cut ∧ (wholes blk rs cut j = rs.length ∨ cut < (fileOf blk (rs.take (wholes blk rs cut j + 1))).length)
  | 0, _, hn => by
    unfold wholes
    refine ⟨Nat.le_refl _, by simp [fileOf], hn⟩
  | j + 1, hj, hn => by
    unfold wholes
    split
    · rename_i hle
      exact ⟨Nat.le_refl _, hle, hn⟩
    · rename_i hle
      obtain ⟨a, b, c⟩ := wholes_spec blk h rs cut j (by omega) (Or.inr (by omega))
      exact ⟨by omega, b, c⟩
/-- a file is what stands up to a record, that record, and the rest -/
theorem fileOf_split (blk : Nat) (rs : List (List Int)) : ∀ (n j : Nat), j + n ≤ rs.length → ∃ t, fileOf blk (rs.take (j + n)) = fileOf blk (rs.take j) ++ t
  | 0, j, _ => ⟨[], by simp⟩
  | n + 1, j, hj => by
    obtain ⟨t, ht⟩ := fileOf_split blk rs n j (by omega)
    refine ⟨t ++ addR blk ((fileOf blk (rs.take (j + n))).length % blk) (rec rs (j + n)), ?_⟩
    rw [show j + (n + 1) = j + n + 1 by omega, take_snoc (by omega), fileOf_snoc, ← List.append_assoc, ← ht]
theorem fileOf_at (blk : Nat) (rs : List (List Int)) (j : Nat) (hj : j < rs.length) : ∃ t, fileOf blk rs = fileOf blk (rs.take j) ++ (addR blk ((fileOf blk (rs.take j)).length % blk) (rec rs j) ++ t) := by
  obtain ⟨t, ht⟩ := fileOf_split blk rs (rs.length - (j + 1)) (j + 1) (by omega)
  refine ⟨t, ?_⟩
  rw [show j + 1 + (rs.length - (j + 1)) = rs.length by omega, List.take_length, take_snoc hj, fileOf_snoc, List.append_assoc] at ht
  exact ht
/-- P7.5 -/
theorem read_cuts (blk : Nat) (h : 32 ≤ blk) (h2 : blk ≤ 32768) (rs : List (List Int)) (hbulk : bulk rs ≤ 1048576) (cut j : Nat) (hcut : cut ≤ (fileOf blk rs).length) (hj : j ≤ rs.length) (h3 : (fileOf blk (rs.take j)).length ≤ cut) (h4 : j = rs.length ∨ cut < (fileOf blk (rs.take (j + 1))).length) :
    ∃ hw, hw ≠ 2 ∧ ((fileOf blk (rs.take j)).length = cut → hw = 0) ∧ Reads blk ((fileOf blk rs).take cut) 0 [] false (outsOf blk rs j) hw := by
  have key : ∀ hw rest, (fileOf blk rs).take cut = fileOf blk (rs.take j) ++ rest → Reads blk ((fileOf blk rs).take cut) (fileOf blk (rs.take j)).length [] false [] hw → Reads blk ((fileOf blk rs).take cut) 0 [] false (outsOf blk rs j) hw := by
    intro hw rest e hr
    have := read_upto blk h h2 rs hbulk j _ rest [] hw hj e hr
    rw [List.append_nil] at this
    exact this
  by_cases he : (fileOf blk (rs.take j)).length = cut
  · obtain ⟨t, ht⟩ := fileOf_split blk rs (rs.length - j) j (by omega)
    rw [show j + (rs.length - j) = rs.length by omega, List.take_length] at ht
    have e : (fileOf blk rs).take cut = fileOf blk (rs.take j) ++ [] := by rw [ht, ← he, List.take_left', List.append_nil]; rfl
    exact ⟨0, by decide, fun _ => rfl, key 0 [] e (Reads.fin _ _ _ (by rw [e, List.append_nil]; exact Nat.le_refl _))⟩
  · have hjl : j < rs.length := by
      rcases h4 with h4 | h4
      · have e5 : rs.take j = rs := List.take_of_length_le (by omega)
        rw [e5] at he h3; omega
      · rcases Nat.lt_or_ge j rs.length with h5 | h5
        · exact h5
        · have e5 : rs.take j = rs := List.take_of_length_le (by omega)
          rw [e5] at he h3; omega
    have h5 : cut < (fileOf blk (rs.take (j + 1))).length := by rcases h4 with h4 | h4 <;> omega
    rw [take_snoc hjl, fileOf_snoc, List.length_append] at h5
    obtain ⟨t, ht⟩ := fileOf_at blk rs j hjl
    obtain ⟨c, hc⟩ : ∃ c, cut = (fileOf blk (rs.take j)).length + c := ⟨cut - (fileOf blk (rs.take j)).length, by omega⟩
    have e : (fileOf blk rs).take cut = fileOf blk (rs.take j) ++ (addR blk ((fileOf blk (rs.take j)).length % blk) (rec rs j)).take c := by
      rw [ht, hc, List.take_append, Nat.add_sub_cancel_left, List.take_of_length_le (by omega), List.take_append_of_le_length (by omega)]
    have hrl := bulk_rec (rs := rs) (k := j) hjl
    have hA : addR blk ((fileOf blk (rs.take j)).length % blk) (rec rs j) = addJ blk ((rec rs j).length + 2) ((fileOf blk (rs.take j)).length % blk) true (rec rs j) := rfl
    obtain ⟨hw, hw2, hr⟩ := read_cut blk h h2 ((rec rs j).length + 2) (fileOf blk (rs.take j)) true (rec rs j) [] c _ (enough_self _ _ _) (by simp; omega) (by rw [← hA]; omega) e
    exact ⟨hw, hw2, fun hh => absurd hh he, key hw _ e hr⟩

end Go.Proofs.YtmpkigambfghgaaDoor.G

/- Contracts typed by hand: what a reading told, beside the records -/
namespace Go.Proofs.YtmpkigambfghgaaDoor.G
open Go.RowKit Go.Proofs.YtmpkigambfghgaaDoorW.PrintWords Go.Proofs.YtmpkigambfghgaaDoorW.PrintLast Go.Proofs.YtmpkigambfghgaaDoorW.PrintMore
attribute [local go_sem] max2_int min2_int max_two min_two max_three min_three max_four min_four
set_option linter.unusedVariables false
set_option linter.unusedSimpArgs false

/-! what a reading told, beside the records -/
theorem outs_len {blk : Nat} {rs : List (List Int)} {j : Nat} {xs : List Yx} (h : xs.map outY = outsOf blk rs j) : xs.length = j := by
  have := congrArg List.length h
  simpa [outsOf] using this
theorem outs_get {blk : Nat} {rs : List (List Int)} {j : Nat} {xs : List Yx} (h : xs.map outY = outsOf blk rs j) (i : Nat) (hi : i < j) : ∃ x, xs[i]? = some x ∧ x.1 = (fileOf blk (rs.take (i + 1))).length ∧ x.2.1 = rec rs i := by
  have hl := outs_len h
  have h1 : (xs.map outY)[i]? = (outsOf blk rs j)[i]? := by rw [h]
  rw [List.getElem?_map, List.getElem?_eq_getElem (show i < xs.length by omega)] at h1
  unfold outsOf at h1
  rw [List.getElem?_map, List.getElem?_range hi] at h1
  simp only [Option.map_some, Option.some.injEq, outY, Prod.mk.injEq] at h1
  exact ⟨xs[i], List.getElem?_eq_getElem _, h1.1, h1.2⟩
theorem outs_dat {blk : Nat} {rs : List (List Int)} {j : Nat} {xs : List Yx} (h : xs.map outY = outsOf blk rs j) (i : Nat) (hi : i < j) : datY xs i = rec rs i := by
  obtain ⟨x, hx, _, h2⟩ := outs_get h i hi
  unfold datY
  rw [List.getD_eq_getElem?_getD, hx]
  exact h2
theorem outs_end {blk : Nat} {rs : List (List Int)} {j : Nat} {xs : List Yx} (h : xs.map outY = outsOf blk rs j) : endY xs = ((fileOf blk (rs.take j)).length : Int) := by
  have hl := outs_len h
  cases j with
  | zero =>
    obtain rfl : xs = [] := List.eq_nil_of_length_eq_zero hl
    simp [endY, fileOf]
  | succ j =>
    obtain ⟨x, hx, h1, _⟩ := outs_get h j (by omega)
    unfold endY
    rw [List.getLast?_eq_getElem?, hl, Nat.add_sub_cancel, hx]
    simp only [h1]
theorem rec_val {X : World} {B : Nat} {xs : List Yx} (h : Recs X B xs) (i : Nat) (hi : i < xs.length) : valY xs i = .slice (hdr (xs.map hdY) i).1 (hdr (xs.map hdY) i).2.1 (hdr (xs.map hdY) i).2.2 := by
  obtain ⟨A, c, e⟩ := Kd.R_slice (h.rows i hi)
  unfold hdr
  rw [List.getD_eq_getElem?_getD, List.getElem?_map]
  unfold valY at e ⊢
  rw [List.getD_eq_getElem?_getD] at e ⊢
  rw [List.getElem?_eq_getElem hi] at e ⊢
  simp only [Option.getD_some, Option.map_some] at e ⊢
  unfold hdY
  rw [e]
/-- the text of a record that was read -/
theorem rec_text {X W : World} {B : Nat} {xs : List Yx} (h : Recs X B xs) (hb : Below X.heap.size X W) (i : Nat) (hi : i < xs.length) : (convert 22 9 (.slice (hdr (xs.map hdY) i).1 (hdr (xs.map hdY) i).2.1 (hdr (xs.map hdY) i).2.2)).run Tryd.prog W = .ok (.string (strOfNums (datY xs i))) W := by
  rw [← rec_val h i hi]
  exact own_string (P := Tryd.prog) Tryd.underlying22 Tryd.underlying5 Tryd.underlying9 (Kd.own_of_R (Kd.R_below (h.rows i hi) hb))
theorem head_text {w W : World} {rs hs} (h : Heads w rs hs) (hb : Below w.heap.size w W) (i : Nat) (hi : i < rs.length) : (convert 22 9 (.slice (hdr hs i).1 (hdr hs i).2.1 (hdr hs i).2.2)).run Tryd.prog W = .ok (.string (strOfNums (rec rs i))) W := by
  obtain ⟨a, b, c⟩ := h.2 i hi
  rw [a]
  exact Kd.C_string (P := Tryd.prog) Tryd.underlying22 Tryd.underlying5 Tryd.underlying9 (Kd.C_below c hb)

end Go.Proofs.YtmpkigambfghgaaDoor.G

/- Contracts typed by hand: an argument that can be read is of its kind: from the form's reading to the words of the walks -/
namespace Go.Proofs.YtmpkigambfghgaaDoor.G
open Go.RowKit Go.Proofs.YtmpkigambfghgaaDoorW.PrintWords Go.Proofs.YtmpkigambfghgaaDoorW.PrintLast Go.Proofs.YtmpkigambfghgaaDoorW.PrintMore
attribute [local go_sem] max2_int min2_int max_two min_two max_three min_three max_four min_four
set_option linter.unusedVariables false
set_option linter.unusedSimpArgs false

/-! an argument that can be read is of its kind: from the form's reading to the words of the walks -/
open Go.ChangeShapes Go.WideShapes Go.Deep
structure Opens (P : Program) (t : TypeId) {α : Type} (d : Kd α) (good : α → Prop) (bulk : α → Nat) : Prop where
  sz : P.cellsOf t = d.sz
  one : ∀ x, 1 ≤ bulk x
  go : ∀ {H : Type} {enc : TypeId × Value → H} {w : World} {base : Nat} {spare : Nat → Bool} {held : Bool} {fuel : Nat} {cs : List Value} {x : DataW H × List MemPlace}, DataW.trod enc P w base spare held fuel t cs = some x → ∃ a : α, d.K w a cs ∧ good a ∧ bulk a ≤ Rows.uptoBulk x.1
theorem opens_int {P : Program} {t : TypeId} {k : IntKind} (h : P.underlying t = some (.int k)) (hc : P.cellsOf t = 1) : Opens P t (Kd.int k) (fun n => (Lit.int k n).wf = true) (fun _ => 1) where
  sz := hc
  one := fun _ => Nat.le_refl 1
  go := by
    intro H enc w base spare held fuel cs x hx
    obtain ⟨n, rfl, rfl, hw⟩ := DataW.trod_int h hx
    exact ⟨n, rfl, hw, by simp [Rows.uptoBulk]⟩
theorem opens_bool {P : Program} {t : TypeId} (h : P.underlying t = some .bool) (hc : P.cellsOf t = 1) : Opens P t Kd.bool (fun _ => True) (fun _ => 1) where
  sz := hc
  one := fun _ => Nat.le_refl 1
  go := by
    intro H enc w base spare held fuel cs x hx
    obtain ⟨n, rfl, rfl⟩ := DataW.trod_bool h hx
    exact ⟨n, rfl, trivial, by simp [Rows.uptoBulk]⟩
theorem opens_string {P : Program} {t : TypeId} (h : P.underlying t = some .string) (hc : P.cellsOf t = 1) : Opens P t Kd.string (fun s => s.size ≤ maxLen) (fun s => s.size + 1) where
  sz := hc
  one := fun s => Nat.le_add_left 1 s.size
  go := by
    intro H enc w base spare held fuel cs x hx
    obtain ⟨s, rfl, rfl, hw⟩ := DataW.trod_string h hx
    exact ⟨s, rfl, hw, by simp [Rows.uptoBulk]⟩
def sumBulk {α : Type} (bulk : α → Nat) (l : List α) : Nat := (l.map bulk).sum
theorem sumBulk_nil {α : Type} (bulk : α → Nat) : sumBulk bulk [] = 0 := rfl
theorem sumBulk_cons {α : Type} (bulk : α → Nat) (x : α) (l : List α) : sumBulk bulk (x :: l) = bulk x + sumBulk bulk l := by simp [sumBulk]
theorem sumBulk_append {α : Type} (bulk : α → Nat) (l r : List α) : sumBulk bulk (l ++ r) = sumBulk bulk l + sumBulk bulk r := by simp [sumBulk, List.sum_append]
theorem sumBulk_mem {α : Type} (bulk : α → Nat) {x : α} {l : List α} (h : x ∈ l) : bulk x ≤ sumBulk bulk l := by
  induction l with
  | nil => cases h
  | cons y r ih =>
    rw [sumBulk_cons]
    rcases List.mem_cons.1 h with rfl | h
    · omega
    · have := ih h; omega
theorem sumBulk_len {α : Type} (bulk : α → Nat) (h1 : ∀ x, 1 ≤ bulk x) (l : List α) : l.length ≤ sumBulk bulk l := by
  induction l with
  | nil => exact Nat.zero_le _
  | cons y r ih => rw [sumBulk_cons, List.length_cons]; have := h1 y; omega
theorem list_of {α : Type} {Q : Nat → α → Prop} : ∀ (n : Nat), (∀ i, i < n → ∃ y, Q i y) → ∃ l : List α, l.length = n ∧ ∀ i y, l[i]? = some y → Q i y
  | 0, _ => ⟨[], rfl, fun i y h => by simp at h⟩
  | n + 1, h => by
    obtain ⟨l, hl, hq⟩ := list_of n (fun i hi => h i (by omega))
    obtain ⟨y, hy⟩ := h n (by omega)
    refine ⟨l ++ [y], by simp [hl], fun i z hz => ?_⟩
    rcases Nat.lt_trichotomy i n with hi | hi | hi
    · rw [List.getElem?_append_left (by omega)] at hz
      exact hq i z hz
    · subst hi
      rw [List.getElem?_append_right (by omega), hl] at hz
      simp at hz
      subst hz
      exact hy
    · rw [List.getElem?_eq_none (by simp [hl]; omega)] at hz
      cases hz
theorem bulkAll_append {H : Type} (l r : List (DataW H)) : Rows.uptoBulkAll (l ++ r) = Rows.uptoBulkAll l + Rows.uptoBulkAll r := by
  induction l with
  | nil => simp [Rows.uptoBulkAll]
  | cons x l ih => simp only [List.cons_append, Rows.uptoBulkAll, ih]; omega
theorem bulkAll_map {H : Type} {α : Type} (bulk : α → Nat) (D : Nat → DataW H) : ∀ (n : Nat) (l : List α), l.length = n → (∀ i y, l[i]? = some y → bulk y ≤ Rows.uptoBulk (D i)) → sumBulk bulk l ≤ Rows.uptoBulkAll ((List.range n).map D)
  | 0, l, hl, _ => by
    have : l = [] := List.length_eq_zero_iff.1 hl
    subst this
    simp [sumBulk]
  | n + 1, l, hl, h => by
    have hne : l ≠ [] := by
      intro e
      rw [e] at hl
      simp at hl
    obtain ⟨l0, y0, rfl⟩ : ∃ l0 y0, l = l0 ++ [y0] := ⟨l.dropLast, l.getLast hne, (List.dropLast_concat_getLast hne).symm⟩
    have hd : l0.length = n := by simpa using hl
    have ih := bulkAll_map bulk D n l0 hd (fun i y hy => h i y (by
      have hi : i < l0.length := (List.getElem?_eq_some_iff.1 hy).1
      rw [List.getElem?_append_left hi]
      exact hy))
    have hn := h n y0 (by
      rw [List.getElem?_append_right (by omega), hd]
      simp)
    rw [List.range_succ, List.map_append, bulkAll_append, sumBulk_append]
    simp only [List.map_cons, List.map_nil, sumBulk_cons, sumBulk_nil, Rows.uptoBulkAll]
    omega
theorem opens_slice {P : Program} {t e : TypeId} {α : Type} {d : Kd α} {good : α → Prop} {bulk : α → Nat} (h : P.underlying t = some (.slice e)) (hc : P.cellsOf t = 1) (he : Opens P e d good bulk) : Opens P t (Kd.slice e d) (fun l => ∀ x ∈ l, good x) (fun l => sumBulk bulk l + 1) where
  sz := hc
  one := fun l => Nat.le_add_left 1 _
  go := by
    intro H enc w base spare held fuel cs x hx
    rcases open_slice h hx with ⟨rfl, rfl⟩ | ⟨a, len, cap, m, n, D, Pl, rfl, hb, hl, hm, hmm, rfl, hi⟩
    · exact ⟨[], ⟨none, 0, rfl, Nat.le_refl _, Kd.C_nil _ _⟩, by simp, by simp [sumBulk, Rows.uptoBulk]⟩
    · have hlm : len ≤ m := by
        rw [hmm]
        split
        · exact hl
        · exact Nat.le_refl _
      obtain ⟨l, hll, hq⟩ := list_of (Q := fun i y => ∃ cs', w.cells? base (a.add (i * P.cellsOf e)) (P.cellsOf e) = some cs' ∧ d.K w y cs' ∧ good y ∧ bulk y ≤ Rows.uptoBulk (D i)) len (fun i hlt => by
        obtain ⟨cs', hcs, ht⟩ := hi i (by omega)
        obtain ⟨y, h1, h2, h3⟩ := he.go ht
        exact ⟨y, cs', hcs, h1, h2, h3⟩)
      subst hll
      refine ⟨l, ⟨some a, cap, rfl, hl, rfl, by unfold maxLen at hm; omega, fun _ => ⟨a, rfl, fun j p hj => ?_⟩⟩, fun x hx => ?_, ?_⟩
      · obtain ⟨cs', hcs, hk, _, _⟩ := hq j p hj
        obtain ⟨_, hlen, hat⟩ := World.cells?_some hcs
        rw [he.sz] at hlen hat
        refine ⟨cs', hlen, hk, fun i u hu => ?_⟩
        have hil : i < cs'.length := (List.getElem?_eq_some_iff.1 hu).1
        have := hat i (by omega)
        rw [Go.Deep.add_add] at this
        rw [this, hu]
      · obtain ⟨i, hi2⟩ := List.getElem?_of_mem hx
        obtain ⟨_, _, _, hg, _⟩ := hq i x hi2
        exact hg
      · have hbk := bulkAll_map bulk D l.length l rfl (fun i y hy => by
          obtain ⟨_, _, _, _, h5⟩ := hq i y hy
          exact h5)
        simp only [Rows.uptoBulk]
        omega
theorem opens_struct2 {P : Program} {t : TypeId} {f0 f1 : Field} {α β : Type} {d0 : Kd α} {d1 : Kd β} {g0 : α → Prop} {g1 : β → Prop} {b0 : α → Nat} {b1 : β → Nat} (ht : P.underlying t = some (.struct #[f0, f1])) (hc : P.cellsOf t = d0.sz + d1.sz)
    (ho0 : f0.offset = 0) (ho1 : f1.offset = d0.sz) (h0 : Opens P f0.type d0 g0 b0) (h1 : Opens P f1.type d1 g1 b1) : Opens P t (Kd.pair d0 d1) (fun x => g0 x.1 ∧ g1 x.2) (fun x => b0 x.1 + b1 x.2 + 1) where
  sz := hc
  one := fun l => Nat.le_add_left 1 _
  go := by
    intro H enc w base spare held fuel cs x hx
    obtain ⟨y0, y1, n, rfl, hl, e0, e1⟩ := trod_struct2 ht hx
    obtain ⟨a, k0, q0, p0⟩ := h0.go e0
    obtain ⟨b, k1, q1, p1⟩ := h1.go e1
    rw [ho0, h0.sz] at k0
    rw [ho1, h1.sz] at k1
    refine ⟨(a, b), ⟨_, _, ?_, k0, k1⟩, ⟨q0, q1⟩, ?_⟩
    · rw [List.drop_zero]
      have hd : (cs.drop d0.sz).take d1.sz = cs.drop d0.sz := List.take_of_length_le (by rw [List.length_drop]; omega)
      rw [hd, List.take_append_drop]
    · simp only [Rows.uptoBulk, Rows.uptoBulkAll]
      omega
theorem opens_struct3 {P : Program} {t : TypeId} {f0 f1 f2 : Field} {α β γ : Type} {d0 : Kd α} {d1 : Kd β} {d2 : Kd γ} {g0 : α → Prop} {g1 : β → Prop} {g2 : γ → Prop} {b0 : α → Nat} {b1 : β → Nat} {b2 : γ → Nat} (ht : P.underlying t = some (.struct #[f0, f1, f2])) (hc : P.cellsOf t = d0.sz + (d1.sz + d2.sz))
    (ho0 : f0.offset = 0) (ho1 : f1.offset = d0.sz) (ho2 : f2.offset = d0.sz + d1.sz) (h0 : Opens P f0.type d0 g0 b0) (h1 : Opens P f1.type d1 g1 b1) (h2 : Opens P f2.type d2 g2 b2) : Opens P t (Kd.pair d0 (Kd.pair d1 d2)) (fun x => g0 x.1 ∧ g1 x.2.1 ∧ g2 x.2.2) (fun x => b0 x.1 + b1 x.2.1 + b2 x.2.2 + 1) where
  sz := hc
  one := fun l => Nat.le_add_left 1 _
  go := by
    intro H enc w base spare held fuel cs x hx
    obtain ⟨y0, y1, y2, n, rfl, hl, e0, e1, e2⟩ := trod_struct3 ht hx
    obtain ⟨a, k0, q0, p0⟩ := h0.go e0
    obtain ⟨b, k1, q1, p1⟩ := h1.go e1
    obtain ⟨c, k2, q2, p2⟩ := h2.go e2
    rw [ho0, h0.sz] at k0
    rw [ho1, h1.sz] at k1
    rw [ho2, h2.sz] at k2
    refine ⟨(a, b, c), ⟨_, _, ?_, k0, _, _, rfl, k1, k2⟩, ⟨q0, q1, q2⟩, ?_⟩
    · rw [List.drop_zero]
      have hd : (cs.drop (d0.sz + d1.sz)).take d2.sz = cs.drop (d0.sz + d1.sz) := List.take_of_length_le (by rw [List.length_drop]; omega)
      rw [hd, ← List.drop_drop, List.take_append_drop, List.take_append_drop]
    · simp only [Rows.uptoBulk, Rows.uptoBulkAll]
      omega
theorem seg_join {α : Type} (cs : List α) (o n : Nat) : (cs.drop o).take n ++ cs.drop (o + n) = cs.drop o := by
  rw [← List.drop_drop, List.take_append_drop]
theorem opens_struct4 {P : Program} {t : TypeId} {f0 f1 f2 f3 : Field} {α0 α1 α2 α3 : Type} {d0 : Kd α0} {d1 : Kd α1} {d2 : Kd α2} {d3 : Kd α3} {g0 : α0 → Prop} {g1 : α1 → Prop} {g2 : α2 → Prop} {g3 : α3 → Prop} {b0 : α0 → Nat} {b1 : α1 → Nat} {b2 : α2 → Nat} {b3 : α3 → Nat} (ht : P.underlying t = some (.struct #[f0, f1, f2, f3])) (hc : P.cellsOf t = (d0.sz + (d1.sz + (d2.sz + d3.sz))))
    (ho0 : f0.offset = 0) (ho1 : f1.offset = d0.sz) (ho2 : f2.offset = d0.sz + d1.sz) (ho3 : f3.offset = d0.sz + d1.sz + d2.sz) (h0 : Opens P f0.type d0 g0 b0) (h1 : Opens P f1.type d1 g1 b1) (h2 : Opens P f2.type d2 g2 b2) (h3 : Opens P f3.type d3 g3 b3) : Opens P t (Kd.pair d0 (Kd.pair d1 (Kd.pair d2 d3))) (fun x => g0 x.1 ∧ g1 x.2.1 ∧ g2 x.2.2.1 ∧ g3 x.2.2.2) (fun x => b0 x.1 + b1 x.2.1 + b2 x.2.2.1 + b3 x.2.2.2 + 1) where
  sz := hc
  one := fun l => Nat.le_add_left 1 _
  go := by
    intro H enc w base spare held fuel cs x hx
    obtain ⟨xs, n, _, rfl, hl, hlen, hf⟩ := DataW.trod_struct ht hx
    match xs, hlen with
    | [y0, y1, y2, y3], _ =>
      obtain ⟨a0, k0, q0, p0⟩ := h0.go (show DataW.trod enc P w base spare held n f0.type ((cs.drop f0.offset).take (P.cellsOf f0.type)) = some y0 from by simpa using hf 0 f0 rfl)
      rw [ho0, h0.sz] at k0
      obtain ⟨a1, k1, q1, p1⟩ := h1.go (show DataW.trod enc P w base spare held n f1.type ((cs.drop f1.offset).take (P.cellsOf f1.type)) = some y1 from by simpa using hf 1 f1 rfl)
      rw [ho1, h1.sz] at k1
      obtain ⟨a2, k2, q2, p2⟩ := h2.go (show DataW.trod enc P w base spare held n f2.type ((cs.drop f2.offset).take (P.cellsOf f2.type)) = some y2 from by simpa using hf 2 f2 rfl)
      rw [ho2, h2.sz] at k2
      obtain ⟨a3, k3, q3, p3⟩ := h3.go (show DataW.trod enc P w base spare held n f3.type ((cs.drop f3.offset).take (P.cellsOf f3.type)) = some y3 from by simpa using hf 3 f3 rfl)
      rw [ho3, h3.sz] at k3
      refine ⟨(a0, a1, a2, a3), ⟨_, _, ?_, k0, _, _, rfl, k1, _, _, rfl, k2, k3⟩, ⟨q0, q1, q2, q3⟩, ?_⟩
      · rw [List.drop_zero]
        have hd : (cs.drop (d0.sz + d1.sz + d2.sz)).take d3.sz = cs.drop (d0.sz + d1.sz + d2.sz) := List.take_of_length_le (by rw [List.length_drop]; omega)
        rw [hd, seg_join, seg_join, List.take_append_drop]
      · simp only [List.map_cons, List.map_nil, Rows.uptoBulk, Rows.uptoBulkAll]
        omega
theorem opens_struct5 {P : Program} {t : TypeId} {f0 f1 f2 f3 f4 : Field} {α0 α1 α2 α3 α4 : Type} {d0 : Kd α0} {d1 : Kd α1} {d2 : Kd α2} {d3 : Kd α3} {d4 : Kd α4} {g0 : α0 → Prop} {g1 : α1 → Prop} {g2 : α2 → Prop} {g3 : α3 → Prop} {g4 : α4 → Prop} {b0 : α0 → Nat} {b1 : α1 → Nat} {b2 : α2 → Nat} {b3 : α3 → Nat} {b4 : α4 → Nat} (ht : P.underlying t = some (.struct #[f0, f1, f2, f3, f4])) (hc : P.cellsOf t = (d0.sz + (d1.sz + (d2.sz + (d3.sz + d4.sz)))))
    (ho0 : f0.offset = 0) (ho1 : f1.offset = d0.sz) (ho2 : f2.offset = d0.sz + d1.sz) (ho3 : f3.offset = d0.sz + d1.sz + d2.sz) (ho4 : f4.offset = d0.sz + d1.sz + d2.sz + d3.sz) (h0 : Opens P f0.type d0 g0 b0) (h1 : Opens P f1.type d1 g1 b1) (h2 : Opens P f2.type d2 g2 b2) (h3 : Opens P f3.type d3 g3 b3) (h4 : Opens P f4.type d4 g4 b4) : Opens P t (Kd.pair d0 (Kd.pair d1 (Kd.pair d2 (Kd.pair d3 d4)))) (fun x => g0 x.1 ∧ g1 x.2.1 ∧ g2 x.2.2.1 ∧ g3 x.2.2.2.1 ∧ g4 x.2.2.2.2) (fun x => b0 x.1 + b1 x.2.1 + b2 x.2.2.1 + b3 x.2.2.2.1 + b4 x.2.2.2.2 + 1) where
  sz := hc
  one := fun l => Nat.le_add_left 1 _
  go := by
    intro H enc w base spare held fuel cs x hx
    obtain ⟨xs, n, _, rfl, hl, hlen, hf⟩ := DataW.trod_struct ht hx
    match xs, hlen with
    | [y0, y1, y2, y3, y4], _ =>
      obtain ⟨a0, k0, q0, p0⟩ := h0.go (show DataW.trod enc P w base spare held n f0.type ((cs.drop f0.offset).take (P.cellsOf f0.type)) = some y0 from by simpa using hf 0 f0 rfl)
      rw [ho0, h0.sz] at k0
      obtain ⟨a1, k1, q1, p1⟩ := h1.go (show DataW.trod enc P w base spare held n f1.type ((cs.drop f1.offset).take (P.cellsOf f1.type)) = some y1 from by simpa using hf 1 f1 rfl)
      rw [ho1, h1.sz] at k1
      obtain ⟨a2, k2, q2, p2⟩ := h2.go (show DataW.trod enc P w base spare held n f2.type ((cs.drop f2.offset).take (P.cellsOf f2.type)) = some y2 from by simpa using hf 2 f2 rfl)
      rw [ho2, h2.sz] at k2
      obtain ⟨a3, k3, q3, p3⟩ := h3.go (show DataW.trod enc P w base spare held n f3.type ((cs.drop f3.offset).take (P.cellsOf f3.type)) = some y3 from by simpa using hf 3 f3 rfl)
      rw [ho3, h3.sz] at k3
      obtain ⟨a4, k4, q4, p4⟩ := h4.go (show DataW.trod enc P w base spare held n f4.type ((cs.drop f4.offset).take (P.cellsOf f4.type)) = some y4 from by simpa using hf 4 f4 rfl)
      rw [ho4, h4.sz] at k4
      refine ⟨(a0, a1, a2, a3, a4), ⟨_, _, ?_, k0, _, _, rfl, k1, _, _, rfl, k2, _, _, rfl, k3, k4⟩, ⟨q0, q1, q2, q3, q4⟩, ?_⟩
      · rw [List.drop_zero]
        have hd : (cs.drop (d0.sz + d1.sz + d2.sz + d3.sz)).take d4.sz = cs.drop (d0.sz + d1.sz + d2.sz + d3.sz) := List.take_of_length_le (by rw [List.length_drop]; omega)
        rw [hd, seg_join, seg_join, seg_join, List.take_append_drop]
      · simp only [List.map_cons, List.map_nil, Rows.uptoBulk, Rows.uptoBulkAll]
        omega
theorem opens_struct6 {P : Program} {t : TypeId} {f0 f1 f2 f3 f4 f5 : Field} {α0 α1 α2 α3 α4 α5 : Type} {d0 : Kd α0} {d1 : Kd α1} {d2 : Kd α2} {d3 : Kd α3} {d4 : Kd α4} {d5 : Kd α5} {g0 : α0 → Prop} {g1 : α1 → Prop} {g2 : α2 → Prop} {g3 : α3 → Prop} {g4 : α4 → Prop} {g5 : α5 → Prop} {b0 : α0 → Nat} {b1 : α1 → Nat} {b2 : α2 → Nat} {b3 : α3 → Nat} {b4 : α4 → Nat} {b5 : α5 → Nat} (ht : P.underlying t = some (.struct #[f0, f1, f2, f3, f4, f5])) (hc : P.cellsOf t = (d0.sz + (d1.sz + (d2.sz + (d3.sz + (d4.sz + d5.sz))))))
    (ho0 : f0.offset = 0) (ho1 : f1.offset = d0.sz) (ho2 : f2.offset = d0.sz + d1.sz) (ho3 : f3.offset = d0.sz + d1.sz + d2.sz) (ho4 : f4.offset = d0.sz + d1.sz + d2.sz + d3.sz) (ho5 : f5.offset = d0.sz + d1.sz + d2.sz + d3.sz + d4.sz) (h0 : Opens P f0.type d0 g0 b0) (h1 : Opens P f1.type d1 g1 b1) (h2 : Opens P f2.type d2 g2 b2) (h3 : Opens P f3.type d3 g3 b3) (h4 : Opens P f4.type d4 g4 b4) (h5 : Opens P f5.type d5 g5 b5) : Opens P t (Kd.pair d0 (Kd.pair d1 (Kd.pair d2 (Kd.pair d3 (Kd.pair d4 d5))))) (fun x => g0 x.1 ∧ g1 x.2.1 ∧ g2 x.2.2.1 ∧ g3 x.2.2.2.1 ∧ g4 x.2.2.2.2.1 ∧ g5 x.2.2.2.2.2) (fun x => b0 x.1 + b1 x.2.1 + b2 x.2.2.1 + b3 x.2.2.2.1 + b4 x.2.2.2.2.1 + b5 x.2.2.2.2.2 + 1) where
  sz := hc
  one := fun l => Nat.le_add_left 1 _
  go := by
    intro H enc w base spare held fuel cs x hx
    obtain ⟨xs, n, _, rfl, hl, hlen, hf⟩ := DataW.trod_struct ht hx
    match xs, hlen with
    | [y0, y1, y2, y3, y4, y5], _ =>
      obtain ⟨a0, k0, q0, p0⟩ := h0.go (show DataW.trod enc P w base spare held n f0.type ((cs.drop f0.offset).take (P.cellsOf f0.type)) = some y0 from by simpa using hf 0 f0 rfl)
      rw [ho0, h0.sz] at k0
      obtain ⟨a1, k1, q1, p1⟩ := h1.go (show DataW.trod enc P w base spare held n f1.type ((cs.drop f1.offset).take (P.cellsOf f1.type)) = some y1 from by simpa using hf 1 f1 rfl)
      rw [ho1, h1.sz] at k1
      obtain ⟨a2, k2, q2, p2⟩ := h2.go (show DataW.trod enc P w base spare held n f2.type ((cs.drop f2.offset).take (P.cellsOf f2.type)) = some y2 from by simpa using hf 2 f2 rfl)
      rw [ho2, h2.sz] at k2
      obtain ⟨a3, k3, q3, p3⟩ := h3.go (show DataW.trod enc P w base spare held n f3.type ((cs.drop f3.offset).take (P.cellsOf f3.type)) = some y3 from by simpa using hf 3 f3 rfl)
      rw [ho3, h3.sz] at k3
      obtain ⟨a4, k4, q4, p4⟩ := h4.go (show DataW.trod enc P w base spare held n f4.type ((cs.drop f4.offset).take (P.cellsOf f4.type)) = some y4 from by simpa using hf 4 f4 rfl)
      rw [ho4, h4.sz] at k4
      obtain ⟨a5, k5, q5, p5⟩ := h5.go (show DataW.trod enc P w base spare held n f5.type ((cs.drop f5.offset).take (P.cellsOf f5.type)) = some y5 from by simpa using hf 5 f5 rfl)
      rw [ho5, h5.sz] at k5
      refine ⟨(a0, a1, a2, a3, a4, a5), ⟨_, _, ?_, k0, _, _, rfl, k1, _, _, rfl, k2, _, _, rfl, k3, _, _, rfl, k4, k5⟩, ⟨q0, q1, q2, q3, q4, q5⟩, ?_⟩
      · rw [List.drop_zero]
        have hd : (cs.drop (d0.sz + d1.sz + d2.sz + d3.sz + d4.sz)).take d5.sz = cs.drop (d0.sz + d1.sz + d2.sz + d3.sz + d4.sz) := List.take_of_length_le (by rw [List.length_drop]; omega)
        rw [hd, seg_join, seg_join, seg_join, seg_join, List.take_append_drop]
      · simp only [List.map_cons, List.map_nil, Rows.uptoBulk, Rows.uptoBulkAll]
        omega
theorem opens_struct7 {P : Program} {t : TypeId} {f0 f1 f2 f3 f4 f5 f6 : Field} {α0 α1 α2 α3 α4 α5 α6 : Type} {d0 : Kd α0} {d1 : Kd α1} {d2 : Kd α2} {d3 : Kd α3} {d4 : Kd α4} {d5 : Kd α5} {d6 : Kd α6} {g0 : α0 → Prop} {g1 : α1 → Prop} {g2 : α2 → Prop} {g3 : α3 → Prop} {g4 : α4 → Prop} {g5 : α5 → Prop} {g6 : α6 → Prop} {b0 : α0 → Nat} {b1 : α1 → Nat} {b2 : α2 → Nat} {b3 : α3 → Nat} {b4 : α4 → Nat} {b5 : α5 → Nat} {b6 : α6 → Nat} (ht : P.underlying t = some (.struct #[f0, f1, f2, f3, f4, f5, f6])) (hc : P.cellsOf t = (d0.sz + (d1.sz + (d2.sz + (d3.sz + (d4.sz + (d5.sz + d6.sz)))))))
    (ho0 : f0.offset = 0) (ho1 : f1.offset = d0.sz) (ho2 : f2.offset = d0.sz + d1.sz) (ho3 : f3.offset = d0.sz + d1.sz + d2.sz) (ho4 : f4.offset = d0.sz + d1.sz + d2.sz + d3.sz) (ho5 : f5.offset = d0.sz + d1.sz + d2.sz + d3.sz + d4.sz) (ho6 : f6.offset = d0.sz + d1.sz + d2.sz + d3.sz + d4.sz + d5.sz) (h0 : Opens P f0.type d0 g0 b0) (h1 : Opens P f1.type d1 g1 b1) (h2 : Opens P f2.type d2 g2 b2) (h3 : Opens P f3.type d3 g3 b3) (h4 : Opens P f4.type d4 g4 b4) (h5 : Opens P f5.type d5 g5 b5) (h6 : Opens P f6.type d6 g6 b6) : Opens P t (Kd.pair d0 (Kd.pair d1 (Kd.pair d2 (Kd.pair d3 (Kd.pair d4 (Kd.pair d5 d6)))))) (fun x => g0 x.1 ∧ g1 x.2.1 ∧ g2 x.2.2.1 ∧ g3 x.2.2.2.1 ∧ g4 x.2.2.2.2.1 ∧ g5 x.2.2.2.2.2.1 ∧ g6 x.2.2.2.2.2.2) (fun x => b0 x.1 + b1 x.2.1 + b2 x.2.2.1 + b3 x.2.2.2.1 + b4 x.2.2.2.2.1 + b5 x.2.2.2.2.2.1 + b6 x.2.2.2.2.2.2 + 1) where
  sz := hc
  one := fun l => Nat.le_add_left 1 _
  go := by
    intro H enc w base spare held fuel cs x hx
    obtain ⟨xs, n, _, rfl, hl, hlen, hf⟩ := DataW.trod_struct ht hx
    match xs, hlen with
    | [y0, y1, y2, y3, y4, y5, y6], _ =>
      obtain ⟨a0, k0, q0, p0⟩ := h0.go (show DataW.trod enc P w base spare held n f0.type ((cs.drop f0.offset).take (P.cellsOf f0.type)) = some y0 from by simpa using hf 0 f0 rfl)
      rw [ho0, h0.sz] at k0
      obtain ⟨a1, k1, q1, p1⟩ := h1.go (show DataW.trod enc P w base spare held n f1.type ((cs.drop f1.offset).take (P.cellsOf f1.type)) = some y1 from by simpa using hf 1 f1 rfl)
      rw [ho1, h1.sz] at k1
      obtain ⟨a2, k2, q2, p2⟩ := h2.go (show DataW.trod enc P w base spare held n f2.type ((cs.drop f2.offset).take (P.cellsOf f2.type)) = some y2 from by simpa using hf 2 f2 rfl)
      rw [ho2, h2.sz] at k2
      obtain ⟨a3, k3, q3, p3⟩ := h3.go (show DataW.trod enc P w base spare held n f3.type ((cs.drop f3.offset).take (P.cellsOf f3.type)) = some y3 from by simpa using hf 3 f3 rfl)
      rw [ho3, h3.sz] at k3
      obtain ⟨a4, k4, q4, p4⟩ := h4.go (show DataW.trod enc P w base spare held n f4.type ((cs.drop f4.offset).take (P.cellsOf f4.type)) = some y4 from by simpa using hf 4 f4 rfl)
      rw [ho4, h4.sz] at k4
      obtain ⟨a5, k5, q5, p5⟩ := h5.go (show DataW.trod enc P w base spare held n f5.type ((cs.drop f5.offset).take (P.cellsOf f5.type)) = some y5 from by simpa using hf 5 f5 rfl)
      rw [ho5, h5.sz] at k5
      obtain ⟨a6, k6, q6, p6⟩ := h6.go (show DataW.trod enc P w base spare held n f6.type ((cs.drop f6.offset).take (P.cellsOf f6.type)) = some y6 from by simpa using hf 6 f6 rfl)
      rw [ho6, h6.sz] at k6
      refine ⟨(a0, a1, a2, a3, a4, a5, a6), ⟨_, _, ?_, k0, _, _, rfl, k1, _, _, rfl, k2, _, _, rfl, k3, _, _, rfl, k4, _, _, rfl, k5, k6⟩, ⟨q0, q1, q2, q3, q4, q5, q6⟩, ?_⟩
      · rw [List.drop_zero]
        have hd : (cs.drop (d0.sz + d1.sz + d2.sz + d3.sz + d4.sz + d5.sz)).take d6.sz = cs.drop (d0.sz + d1.sz + d2.sz + d3.sz + d4.sz + d5.sz) := List.take_of_length_le (by rw [List.length_drop]; omega)
        rw [hd, seg_join, seg_join, seg_join, seg_join, seg_join, List.take_append_drop]
      · simp only [List.map_cons, List.map_nil, Rows.uptoBulk, Rows.uptoBulkAll]
        omega
/-- a kind that is told by a structure of its own -/
theorem opens_iso {P : Program} {t : TypeId} {α β : Type} {d : Kd α} {good : α → Prop} {bulk : α → Nat} (h : Opens P t d good bulk) (f : β → α) (g : α → β) (hfg : ∀ a, f (g a) = a) : Opens P t (Kd.iso d f) (fun x => good (f x)) (fun x => bulk (f x)) where
  sz := h.sz
  one := fun x => h.one (f x)
  go := by
    intro H enc w base spare held fuel cs x hx
    obtain ⟨a, k, q, p⟩ := h.go hx
    refine ⟨g a, ?_, ?_, ?_⟩
    · show d.K w (f (g a)) cs
      rw [hfg]; exact k
    · rw [hfg]; exact q
    · rw [hfg]; exact p
/-- an argument's bulk, of the whole's -/
theorem bulk_bound {H : Type} {ds : List (DataW H)} (hk : Rows.uptoSmall H ds = true) : Rows.uptoBulkAll ds ≤ 1048576 := of_decide_eq_true hk

end Go.Proofs.YtmpkigambfghgaaDoor.G

/- Printed by the session's program over the kit's print, out of the translation: functions as plain Lean functions, and the proofs that the calls come to them. -/
namespace Go.Proofs.YtmpkigambfghgaaDoor.G
open Go.RowKit Go.Proofs.YtmpkigambfghgaaDoorW.PrintWords Go.Proofs.YtmpkigambfghgaaDoorW.PrintLast Go.Proofs.YtmpkigambfghgaaDoorW.PrintMore
attribute [local go_sem] max2_int min2_int max_two min_two max_three min_three max_four min_four   -- for this text's walks alone
set_option linter.unusedVariables false
set_option linter.unusedSimpArgs false

/-! ### morainelaw07_valid: function 21 -/
def morainelaw07_valid.f (a0 : Int) : Option (Bool) := if a0 ≥ 32 then (some (decide (a0 ≤ 32768))) else (some false)
set_option maxHeartbeats 8000000 in
set_option maxRecDepth 100000 in
theorem morainelaw07_valid.calls (a0 : Int) (r : Bool) (w : World) (h : morainelaw07_valid.f a0 = some r) :
    Calls Tryd.prog 21 #[.int .i64 a0] w fun e w' => e = .returned (.bool r) ∧ Drawn0 w w' := by
  have H : (if a0 ≥ 32 then (some (decide (a0 ≤ 32768))) else (some false)) = some r := h
  clear h
  by_cases c2 : a0 ≥ 32
  · rw [if_pos c2] at H
    have c2b0 : decide (32 ≤ a0) = true := decide_eq_true c2
    clear c2
    obtain rfl := Option.some.inj H
    go_enter Tryd.func21, Tryd.ntmps21
    go_wp2
    go_ret
    exact ⟨by first | rfl | (simp; done) | (simp [*]; done), by repeat (first | exact Drawn0.refl _ | apply Drawn0.step)⟩
  · rw [if_neg c2] at H
    have c2b0 : decide (32 ≤ a0) = false := decide_eq_false c2
    clear c2
    obtain rfl := Option.some.inj H
    go_enter Tryd.func21, Tryd.ntmps21
    go_wp2
    go_ret
    exact ⟨by first | rfl | (simp; done) | (simp [*]; done), by repeat (first | exact Drawn0.refl _ | apply Drawn0.step)⟩

end Go.Proofs.YtmpkigambfghgaaDoor.G

/- Contracts typed by hand: the law JournalOn: writers that take turns write the file that one would -/
namespace Go.Proofs.YtmpkigambfghgaaDoor.G
open Go.RowKit Go.Proofs.YtmpkigambfghgaaDoorW.PrintWords Go.Proofs.YtmpkigambfghgaaDoorW.PrintLast Go.Proofs.YtmpkigambfghgaaDoorW.PrintMore
attribute [local go_sem] max2_int min2_int max_two min_two max_three min_three max_four min_four
set_option linter.unusedVariables false
set_option linter.unusedSimpArgs false

/-! the law JournalOn: writers that take turns write the file that one would -/
theorem bulk_of (rs : List (List Int)) : bulk rs = sumBulk (fun l : List Int => sumBulk (fun _ : Int => 1) l + 1) rs := by
  have h : ∀ l : List Int, sumBulk (fun _ : Int => 1) l = l.length := by
    intro l
    induction l with
    | nil => rfl
    | cons x r ih => rw [sumBulk_cons, ih, List.length_cons]; omega
  induction rs with
  | nil => rfl
  | cons r rs ih =>
    rw [sumBulk_cons, ← ih, h]
    simp [bulk]
theorem byt_recs {rs : List (List Int)} (hg : ∀ x ∈ rs, ∀ y ∈ x, (Lit.int .u8 y).wf = true) : ∀ r ∈ rs, Byt r := fun r hr => byt_of_wf (hg r hr)
set_option maxHeartbeats 8000000 in
set_option maxRecDepth 100000 in
theorem on_calls (blk : Nat) (A0 : Option Addr) (c0 : Nat) (rs : List (List Int)) (hs : List (Option Addr × Nat × Nat)) (w : World) (h1 : 32 ≤ blk) (h2 : blk ≤ 32768) (hH : Heads w rs hs) (hC : hdK.C w A0 rs.length hs) (hc0 : rs.length ≤ c0) (hby : ∀ r ∈ rs, Byt r) (hbulk : bulk rs ≤ 1048576) (hT : TabAt w) :
    Calls Tryd.prog 5 #[.int .i64 (blk : Int), .slice A0 rs.length c0] w fun e w' => e = .returned (.bool true) ∧ Below w.heap.size w w' := by
  have HH := Aside0.mk hH
  have HC := Aside0.mk hC
  have HC0 := Aside0.mk hc0
  have HBY := Aside0.mk hby
  have HT := Aside0.mk hT
  have HBK := Aside0.mk hbulk
  have HHL := Aside0.mk hH.1
  have hinfo : (Tryd.prog.info? 5).map (fun i => (i.zero, i.size, i.bytes)) = some (some (.int .u8 0), 1, 1) := by kernel_rfl
  have HI := Aside0.mk hinfo
  have HV := Aside0.mk (morainelaw07_valid.calls (blk : Int) true w (by unfold morainelaw07_valid.f; rw [if_pos (by omega)]; simp; omega))
  clear hH hC hby hT hbulk hinfo hc0
  go_enter Tryd.func5, Tryd.ntmps5
  go_wp2_with fail
  (with_reducible refine HV.out.mono ?_)
  rintro e w1 ⟨rfl, hd⟩
  have HB1 := Aside0.mk hd.below
  clear hd
  go_wp2_with fail
  (with_reducible refine (written_calls blk A0 c0 rs hs _ h1 h2 (HH.out.below HB1.out) (Kd.C_below HC.out HB1.out) HC0.out HBY.out HBK.out (HT.out.below HB1.out)).mono ?_)
  rintro e w2 ⟨v0, v1, v2, rfl, hf, hE_, hk, hb⟩
  have HB2 := Aside0.mk (below_step HB1.out hb)
  have HF2 := Aside0.mk hf
  obtain ⟨A2, c2, rfl, hc2, hC2⟩ := Kd.R_reads hk
  have HK2 := Aside0.mk hC2
  have hnl := bulk_len rs
  have hnl2 : rs.length ≤ 1048576 := Nat.le_trans hnl HBK.out
  rw [HHL.out] at HK2 ⊢
  rw [HHL.out] at hc2
  have HNB := Aside0.mk (Below.refl w2.heap.size w2)
  obtain ⟨n, hn⟩ : ∃ n, rs.length = n := ⟨_, rfl⟩
  have HN := Aside0.mk hn
  rw [hn] at hnl2 HK2 hc2 ⊢
  clear hf hE_ hk hb hC2 hn hnl
  go_wp2_with fail
  go_loopw [9, 10] (fun v9 v10 wr => ∃ (k : Nat), v10 = .int .i64 (k : Int) ∧ k ≤ n ∧ Aside0 (Kd.R (Kd.int .u8) 5 wr w2.heap.size (fun _ => True) v9 (fileOf blk (rs.take k))) ∧ Aside0 (Below w2.heap.size w2 wr)) (fun _ v10 _ => n - (intOf v10).toNat)
  case atStart => exact ⟨0, rfl, by omega, ⟨Kd.R_nil _ _ _ _ _⟩, HNB⟩
  case round =>
    obtain ⟨k, rfl, hkn, HO, HB⟩ := hrel
    by_cases hlt : k < n
    · have b1 : decide ((k : Int) < (n : Int)) = true := decide_eq_true (by omega)
      have hkr : k < rs.length := by rw [HN.out]; exact hlt
      obtain ⟨ad, e1, _⟩ := hd_at HK2.out k hlt
      cases e1
      have HCELL := Aside0.mk (hdr_cell HK2.out k hlt)
      have hd2 := HH.out.2 k hkr
      have HFN := Aside0.mk (show fileOf blk (rs.take (k + 1)) = fileOf blk (rs.take k) ++ addR blk ((fileOf blk (rs.take k)).length % blk) (rec rs k) by rw [take_snoc hkr, fileOf_snoc])
      have hrl := bulk_rec hkr
      have hfl0 := fileOf_len blk h1 rs k (by omega)
      have hbt0 := bulk_take rs k
      have HRB := Aside0.mk (HBY.out (rec rs k) (List.mem_of_getElem? (rec_get hkr)))
      obtain ⟨r, hr⟩ : ∃ r, rec rs k = r := ⟨_, rfl⟩
      obtain ⟨F, hF⟩ : ∃ F, fileOf blk (rs.take k) = F := ⟨_, rfl⟩
      obtain ⟨x, hx⟩ : ∃ x, hdr hs k = x := ⟨_, rfl⟩
      rw [hx, hr] at hd2
      rw [hx] at HCELL
      rw [hr] at hrl HRB HFN
      rw [hF] at HO hfl0 HFN
      obtain ⟨B, m, dc⟩ := x
      obtain ⟨hm, hdc, hrC⟩ := hd2
      simp only [] at hm hdc hrC
      subst hm
      have HRC := Aside0.mk hrC
      have HDC := Aside0.mk hdc
      have hr1 : r.length ≤ 1048576 := by have := HBK.out; omega
      have hFl : F.length ≤ 24200000 := by have := HBK.out; omega
      obtain ⟨D, hD⟩ : ∃ D, addR blk (F.length % blk) r = D := ⟨_, rfl⟩
      have HCOST := Aside0.mk (show costR blk (F.length % blk) r.length = D.length by rw [← hD, addR_len])
      have hDl : D.length ≤ 24200000 := by rw [← hD, addR_len]; have := costR_le blk h1 (F.length % blk) r.length; omega
      rw [hD] at HFN
      have HD := Aside0.mk hD
      have HFL := Aside0.mk hFl
      have HR1 := Aside0.mk hr1
      have HDL := Aside0.mk hDl
      obtain ⟨AO, cO, rfl⟩ := Kd.R_slice HO.out
      have ew : wrap64 ((k : Int) + 1) = ((k + 1 : Nat) : Int) := by unfold wrap64; omega
      clear hrC hdc hfl0 hbt0 hrl hr hF hx hFl hD hkr hDl
      have hk1 : k ≤ 1048576 := by omega
      go_wp2_with fail
      (with_reducible refine (new_writer blk (F.length : Int) wr h1 h2 (Int.natCast_nonneg _)).mono ?_)
      rintro e w3 ⟨g, rfl, hw, hg0, hb⟩
      have HW3 := Aside0.mk hw
      have HB3 := Aside0.mk (below_step HB.out hb)
      have HO3 := Aside0.mk (Kd.R_below HO.out hb)
      have HG := Aside0.mk (Nat.le_trans HB.out.size hg0)
      have hq3 := HCELL.out w3 HB3.out
      clear hw hg0 hb
      go_wp2_with fail
      (with_reducible refine (wr_cost g blk F.length r.length w3 h1 h2 (by have := HFL.out; omega) HW3.out (by have := HR1.out; omega)).mono ?_)
      rintro e w4 ⟨rfl, hb⟩
      rw [HCOST.out]
      have HW4 := Aside0.mk (HW3.out.below hb)
      have HB4 := Aside0.mk (below_step HB3.out hb)
      have HO4 := Aside0.mk (Kd.R_below HO3.out hb)
      have hq4 := HCELL.out w4 HB4.out
      clear hb hq3
      go_wp2_with fail
      (with_reducible refine (wr_add g blk F.length B dc r w4 h1 h2 (by have := HFL.out; omega) HW4.out ((HT.out.below HB2.out).below HB4.out) (Kd.C_below (Kd.C_below HRC.out HB2.out) HB4.out) HDC.out HRB.out (by have := HR1.out; omega)).mono ?_)
      rintro e w5 ⟨vd, rfl, hdR, hw5, w4', hb4, rfl⟩
      rw [HD.out] at hdR hw5 ⊢
      have hw4' := HW4.out.below hb4
      have HB5 := Aside0.mk (below_set (v := .int .i64 ((F.length + D.length : Nat) : Int)) (j := 1) (below_step HB4.out hb4) HG.out)
      have HO5 := Aside0.mk (wr_set hw4' (Kd.R_below HO4.out hb4) (by decide) (.int .i64 ((F.length + D.length : Nat) : Int)))
      obtain ⟨AD, cD, rfl, hcD, hD2⟩ := Kd.R_reads hdR
      have HD5 := Aside0.mk hD2
      generalize hWW : w4'.setCell ⟨g, 1, none⟩ (.int .i64 ((F.length + D.length : Nat) : Int)) = W5 at *
      clear hWW hw4' hb4 hw5 hdR hD2 hcD hq4
      go_wp2_with (first
        | ((with_reducible refine gate_builtin (b := .append) (xs := #[.tmp 71, .tmp 72]) rfl ?_); at_builtin; refine Kd.R_append_rows (Kd.int .u8)  (w0 := w2) w2.heap.size rfl (.tmp 71) (.tmp 72) 22 5 (.int .u8 0) 1 rfl Tryd.underlying22 HI.out rfl (by decide) (by omega) (.slice AO F.length cO) F D _ _ _ (fun _ => True) (fun _ => False) rfl rfl ?aO ?aR (fun _ _ h => h) (fun _ h => h.elim) (fun _ _ => trivial) ?aB ?aS ?aL ?_; (case aO => exact HO5.out); (case aR => exact HD5.out); (case aB => exact HB5.out); (case aS => exact (HB5.out).size); (case aL => have := HFL.out; have := HDL.out; omega); intro v73 w6 ho hb hg hat; rw [← HFN.out] at ho; have HO6 := Aside0.mk ho; have HB6 := Aside0.mk hb; clear ho hb hg hat))
      go_roundw
      case rel => exact ⟨k + 1, by go_num, by omega, HO6, HB6⟩
      case measure => simp only [intOf]; omega
    · obtain rfl : k = n := by omega
      have b1 : decide ((k : Int) < (k : Int)) = false := decide_eq_false (by omega)
      have hr1 : rs.take k = rs := List.take_of_length_le (Nat.le_of_eq HN.out)
      rw [hr1] at HO
      have HFR := Aside0.mk (Kd.R_below HF2.out HB.out)
      have hcv1 := own_string (P := Tryd.prog) Tryd.underlying22 Tryd.underlying5 Tryd.underlying9 (Kd.own_of_R HO.out)
      have hcv2 := own_string (P := Tryd.prog) Tryd.underlying22 Tryd.underlying5 Tryd.underlying9 (Kd.own_of_R HFR.out)
      generalize fileOf blk rs = F at *
      obtain ⟨AF, cF, rfl⟩ := Kd.R_slice HFR.out
      obtain ⟨AO, cO, rfl⟩ := Kd.R_slice HO.out
      clear hr1
      go_wp2
      go_ret
      exact ⟨by simp, below_step HB2.out HB.out⟩
theorem JournalOn_upto (w : World) (x0 : Int) (hg0 : (Lit.int .i64 x0).wf = true) (A1 : Option Addr) (c1 : Nat) (l1 : List (List Int)) (hc1 : l1.length ≤ c1) (hr1 : Kd.C (Kd.slice 5 (Kd.int .u8)) w A1 l1.length l1) (hg1 : ∀ x ∈ l1, ∀ y ∈ x, (Lit.int .u8 y).wf = true)
    (hbulk : 1 + (sumBulk (fun l : List Int => sumBulk (fun _ : Int => 1) l + 1) l1 + 1) ≤ 1048576) (hTab : TabAt w) :
    Calls Tryd.prog 5 #[.int .i64 x0, .slice A1 l1.length c1] w fun e w' => e = .returned (.bool true) ∧ Below w.heap.size w w' := by
  by_cases hv : 32 ≤ x0 ∧ x0 ≤ 32768
  · obtain ⟨blk, rfl⟩ := Int.eq_ofNat_of_zero_le (show 0 ≤ x0 by omega)
    obtain ⟨hs, hH, hC⟩ := heads_of hr1
    exact on_calls blk A1 c1 l1 hs w (by omega) (by omega) hH hC hc1 (byt_recs hg1) (by rw [bulk_of]; omega) hTab
  · have HV := Aside0.mk (morainelaw07_valid.calls x0 false w (by unfold morainelaw07_valid.f; split <;> simp <;> omega))
    clear hr1 hTab hbulk hg1 hg0
    go_enter Tryd.func5, Tryd.ntmps5
    go_wp2_with fail
    (with_reducible refine HV.out.mono ?_)
    rintro e w1 ⟨rfl, hd⟩
    have HB1 := Aside0.mk hd.below
    clear hd
    go_wp2
    go_ret
    exact ⟨rfl, HB1.out⟩

end Go.Proofs.YtmpkigambfghgaaDoor.G

/- Contracts typed by hand: the law JournalBack -/
namespace Go.Proofs.YtmpkigambfghgaaDoor.G
open Go.RowKit Go.Proofs.YtmpkigambfghgaaDoorW.PrintWords Go.Proofs.YtmpkigambfghgaaDoorW.PrintLast Go.Proofs.YtmpkigambfghgaaDoorW.PrintMore
attribute [local go_sem] max2_int min2_int max_two min_two max_three min_three max_four min_four
set_option linter.unusedVariables false
set_option linter.unusedSimpArgs false

/-! the law JournalBack -/
set_option maxHeartbeats 8000000 in
set_option maxRecDepth 100000 in
theorem back_calls (blk : Nat) (A0 : Option Addr) (c0 : Nat) (rs : List (List Int)) (hs : List (Option Addr × Nat × Nat)) (w : World) (h1 : 32 ≤ blk) (h2 : blk ≤ 32768) (hH : Heads w rs hs) (hC : hdK.C w A0 rs.length hs) (hc0 : rs.length ≤ c0) (hby : ∀ r ∈ rs, Byt r) (hbulk : bulk rs ≤ 1048576) (hT : TabAt w) :
    Calls Tryd.prog 7 #[.int .i64 (blk : Int), .slice A0 rs.length c0] w fun e w' => e = .returned (.bool true) ∧ Below w.heap.size w w' := by
  have HH := Aside0.mk hH
  have HC := Aside0.mk hC
  have HC0 := Aside0.mk hc0
  have HBY := Aside0.mk hby
  have HT := Aside0.mk hT
  have HBK := Aside0.mk hbulk
  have HHL := Aside0.mk hH.1
  have hfl := fileOf_len blk h1 rs rs.length (Nat.le_refl _)
  rw [List.take_length] at hfl
  have HFL := Aside0.mk (show (fileOf blk rs).length ≤ 24117248 by omega)
  have HFB := Aside0.mk (fileOf_byt blk rs hby)
  have HV := Aside0.mk (morainelaw07_valid.calls (blk : Int) true w (by unfold morainelaw07_valid.f; rw [if_pos (by omega)]; simp; omega))
  clear hH hC hby hT hbulk hc0 hfl
  go_enter Tryd.func7, Tryd.ntmps7
  go_wp2_with fail
  (with_reducible refine HV.out.mono ?_)
  rintro e w1 ⟨rfl, hd⟩
  have HB1 := Aside0.mk hd.below
  clear hd
  go_wp2_with fail
  (with_reducible refine (written_calls blk A0 c0 rs hs _ h1 h2 (HH.out.below HB1.out) (Kd.C_below HC.out HB1.out) HC0.out HBY.out HBK.out (HT.out.below HB1.out)).mono ?_)
  rintro e w2 ⟨v0, v1, v2, rfl, hf, hE_, hk, hb⟩
  have HB2 := Aside0.mk (below_step HB1.out hb)
  have HF2 := Aside0.mk hf
  obtain ⟨AF, cF, rfl, hcF, hCF⟩ := Kd.R_reads hf
  obtain ⟨AE, cE, rfl, hcE, hCE⟩ := Kd.R_reads hE_
  obtain ⟨A2, c2, rfl, hc2, hC2⟩ := Kd.R_reads hk
  have HCF := Aside0.mk hCF
  have HCFc := Aside0.mk hcF
  have HCE := Aside0.mk hCE
  have HK2 := Aside0.mk hC2
  have hel : (endsOf blk rs).length = rs.length := by simp [endsOf]
  have hnl := bulk_len rs
  have hnl2 : rs.length ≤ 1048576 := Nat.le_trans hnl HBK.out
  rw [hel] at HCE hcE ⊢
  rw [HHL.out] at HK2 hc2 ⊢
  obtain ⟨n, hn⟩ : ∃ n, rs.length = n := ⟨_, rfl⟩
  have HN := Aside0.mk hn
  rw [hn] at hnl2 HK2 hc2 HCE hcE ⊢
  clear hf hE_ hk hb hC2 hCE hCF hn hnl hel hcF hcE
  go_wp2_with fail
  (with_reducible refine (read_calls blk AF cF (fileOf blk rs) _ _ 0 h1 h2 HCF.out HCFc.out HFB.out (by have := HFL.out; omega) (HT.out.below HB2.out) (read_back blk h1 h2 rs HBK.out)).mono ?_)
  rintro e w3 ⟨v9, xs, rfl, hx, hv, hR, hb⟩
  have HB3 := Aside0.mk (below_step HB2.out hb)
  have HXL := Aside0.mk (outs_len hx)
  have HXD := Aside0.mk (fun i hi => outs_dat hx i hi)
  have hend := outs_end hx
  rw [List.take_length] at hend
  rw [hend]
  have HRC := Aside0.mk hR
  obtain ⟨A9, c9, rfl, hc9, hC9⟩ := Kd.R_reads hv
  have HX := Aside0.mk hC9
  have HK3 := Aside0.mk (Kd.C_below HK2.out hb)
  have HH3 := Aside0.mk (HH.out.below HB3.out)
  rw [List.length_map, HXL.out, HN.out] at HX hc9 ⊢
  rw [HN.out] at HXL HXD
  rw [show ((0 : Nat) : Int) = 0 from rfl]
  clear hx hv hR hb hC9 hend
  generalize (fileOf blk rs).length = FL at *
  go_wp2
  go_loopw [13] (fun v13 wr => ∃ (k : Nat), v13 = .int .i64 (k : Int) ∧ k ≤ n ∧ Aside0 (Below w3.heap.size w3 wr)) (fun v13 _ => n - (intOf v13).toNat)
  case atStart => exact ⟨0, rfl, by omega, ⟨Below.refl _ _⟩⟩
  case round =>
    obtain ⟨k, rfl, hkn, HB⟩ := hrel
    by_cases hlt : k < n
    · have b1 : decide ((k : Int) < (n : Int)) = true := decide_eq_true (by omega)
      have hkx : k < xs.length := by rw [HXL.out]; exact hlt
      have hkr : k < rs.length := by rw [HN.out]; omega
      obtain ⟨ad9, e9, q9⟩ := hd_at (Kd.C_below HX.out HB.out) k hlt
      obtain ⟨ad7, e7, q7⟩ := hd_at (Kd.C_below HK3.out HB.out) k (by omega)
      cases e9
      cases e7
      have hcv1 := fun (j : Nat) => rec_text HRC.out (W := wr.drewN j) (pw_below_drewN HB.out _) k hkx
      have hcv2 := fun (j : Nat) => head_text HH3.out (W := wr.drewN j) (pw_below_drewN HB.out _) k hkr
      have hcv1' := rec_text HRC.out (W := wr) HB.out k hkx
      have hcv2' := head_text HH3.out (W := wr) HB.out k hkr
      rw [HXD.out k hlt] at hcv1 hcv1'
      obtain ⟨y1, hy1⟩ : ∃ y, hdr (xs.map hdY) k = y := ⟨_, rfl⟩
      obtain ⟨y2, hy2⟩ : ∃ y, hdr hs k = y := ⟨_, rfl⟩
      rw [hy1] at q9 hcv1 hcv1'
      rw [hy2] at q7 hcv2 hcv2'
      obtain ⟨y1a, y1n, y1c⟩ := y1
      obtain ⟨y2a, y2n, y2c⟩ := y2
      generalize strOfNums (rec rs k) = T at *
      dsimp only at *
      clear hy1 hy2
      go_wp2
      go_quiet (fail)
      all_goals go_wp2
      go_roundw
      case rel => exact ⟨k + 1, by go_num, by omega, ⟨pw_below_drewN HB.out _⟩⟩
      case measure => simp only [intOf]; omega
    · obtain rfl : k = n := by omega
      have b1 : decide ((k : Int) < (k : Int)) = false := decide_eq_false (by omega)
      go_wp2
      go_ret
      exact ⟨by simp, below_step HB3.out HB.out⟩
theorem JournalBack_upto (w : World) (x0 : Int) (hg0 : (Lit.int .i64 x0).wf = true) (A1 : Option Addr) (c1 : Nat) (l1 : List (List Int)) (hc1 : l1.length ≤ c1) (hr1 : Kd.C (Kd.slice 5 (Kd.int .u8)) w A1 l1.length l1) (hg1 : ∀ x ∈ l1, ∀ y ∈ x, (Lit.int .u8 y).wf = true)
    (hbulk : 1 + (sumBulk (fun l : List Int => sumBulk (fun _ : Int => 1) l + 1) l1 + 1) ≤ 1048576) (hTab : TabAt w) :
    Calls Tryd.prog 7 #[.int .i64 x0, .slice A1 l1.length c1] w fun e w' => e = .returned (.bool true) ∧ Below w.heap.size w w' := by
  by_cases hv : 32 ≤ x0 ∧ x0 ≤ 32768
  · obtain ⟨blk, rfl⟩ := Int.eq_ofNat_of_zero_le (show 0 ≤ x0 by omega)
    obtain ⟨hs, hH, hC⟩ := heads_of hr1
    exact back_calls blk A1 c1 l1 hs w (by omega) (by omega) hH hC hc1 (byt_recs hg1) (by rw [bulk_of]; omega) hTab
  · have HV := Aside0.mk (morainelaw07_valid.calls x0 false w (by unfold morainelaw07_valid.f; split <;> simp <;> omega))
    clear hr1 hTab hbulk hg1 hg0
    go_enter Tryd.func7, Tryd.ntmps7
    go_wp2_with fail
    (with_reducible refine HV.out.mono ?_)
    rintro e w1 ⟨rfl, hd⟩
    have HB1 := Aside0.mk hd.below
    clear hd
    go_wp2
    go_ret
    exact ⟨rfl, HB1.out⟩

end Go.Proofs.YtmpkigambfghgaaDoor.G
