/- Contracts of functions and plain laws, several texts of the session put together by its program. -/
import Derived.Test.YtmpkigambfghgaaDoorProg
import Derived.Below
import Derived.Deep.Draws
import Derived.Deep.AppendLies
import Derived.Maps.AppendAt
import Derived.OwnWalk
import Derived.Laws.BytesArg
import Derived.Laws.MakeOwn
import Derived.Laws.OwnMore
import Derived.Deep.OwnRows
import Derived.Tactics
import Derived.Lib.ConvBytes
import Derived.Laws.Slices
import Derived.WalkKit
import Derived.KernelRfl
import Derived.RowKit3
import Derived.Deep.LoopGhost
import Derived.Deep.QuietTactic
import Derived.BigQuiet
import Derived.WideLaws
import Derived.Deep.DeepCutAuto
import Derived.Deep.CutBlock
import Derived.Deep.RegionHeld3
import Derived.Laws.Rows
import Derived.Lib.AppendStr
import Derived.ArgAppend
import Derived.Laws.IdiomCopy
import Derived.OrdersHeld
import Derived.Laws.BitsLemmas
import Derived.RowKit
import Derived.Test.YtmpkigambfghgaaDoorWWords
import Derived.Test.YtmpkigambfghgaaDoorWLast
import Derived.Test.YtmpkigambfghgaaDoorWTab
import Derived.Test.YtmpkigambfghgaaDoorWFour
import Derived.Test.YtmpkigambfghgaaDoorWQPut
import Derived.Test.YtmpkigambfghgaaDoorWApart
import Derived.Test.YtmpkigambfghgaaDoorWArr
import Derived.Test.YtmpkigambfghgaaDoorWZeros
import Derived.Test.YtmpkigambfghgaaDoorWFoot
import Derived.Test.YtmpkigambfghgaaDoorWKept
import Derived.Test.YtmpkigambfghgaaDoorWShare
import Derived.Test.YtmpkigambfghgaaDoorWN
import Derived.Test.YtmpkigambfghgaaDoorWFootNe
import Derived.Test.YtmpkigambfghgaaDoorWAt
import Derived.Test.YtmpkigambfghgaaDoorWEqStruct
import Derived.Test.YtmpkigambfghgaaDoorWRepsOne
import Derived.Test.YtmpkigambfghgaaDoorWInv
import Derived.Test.YtmpkigambfghgaaDoorWInvWords
import Derived.Test.YtmpkigambfghgaaDoorWGuard
import Derived.Test.YtmpkigambfghgaaDoorWNEv
import Derived.Test.YtmpkigambfghgaaDoorWMore
import Derived.Test.YtmpkigambfghgaaDoorQ0
import Derived.Deep.Cut
import Derived.Lib.QuoteBits
import Derived.WalkMore
import Derived.RangeFuncRecord
import Derived.Shelf.Abstract
import Derived.BigRegionIn

/- Contracts typed by hand: journal: a reader's goOn by hand -/
namespace Go.Proofs.YtmpkigambfghgaaDoor.G
open Go.RowKit Go.Proofs.YtmpkigambfghgaaDoorW.PrintWords Go.Proofs.YtmpkigambfghgaaDoorW.PrintLast Go.Proofs.YtmpkigambfghgaaDoorW.PrintMore
attribute [local go_sem] max2_int min2_int max_two min_two max_three min_three max_four min_four
set_option linter.unusedVariables false
set_option linter.unusedSimpArgs false

/-! journal: a reader's goOn by hand -/
theorem Reads.split {blk : Nat} {f : List Int} {p : Nat} {d : List Int} {o : Bool} {l : List (Nat × List Int)} {how : Nat} (h : Reads blk f p d o l how) :
    (f.length ≤ p ∧ l = [] ∧ how = (if o then 1 else 0)) ∨
    (p < f.length ∧ blk - p % blk < 7 ∧ (∀ i, p ≤ i → i < min (p + (blk - p % blk)) f.length → rdn f i = 0) ∧ Reads blk f (min (p + (blk - p % blk)) f.length) d o l how) ∨
    (p < f.length ∧ blk - p % blk < 7 ∧ l = [] ∧ how = 2 ∧ ∃ i, p ≤ i ∧ i < min (p + (blk - p % blk)) f.length ∧ rdn f i ≠ 0 ∧ (∀ j, p ≤ j → j < i → rdn f j = 0)) ∨
    (p < f.length ∧ 7 ≤ blk - p % blk ∧ f.length < p + 7 ∧ l = [] ∧ how = 1) ∨
    (p + 7 ≤ f.length ∧ 7 ≤ blk - p % blk ∧ (rdn f (p + 6) < 1 ∨ 4 < rdn f (p + 6) ∨ blk - p % blk - 7 < nN f p) ∧ l = [] ∧ how = 2) ∨
    (p + 7 ≤ f.length ∧ 7 ≤ blk - p % blk ∧ 1 ≤ rdn f (p + 6) ∧ rdn f (p + 6) ≤ 4 ∧ nN f p ≤ blk - p % blk - 7 ∧ f.length < p + 7 + nN f p ∧ l = [] ∧ how = 1) ∨
    (p + 7 + nN f p ≤ f.length ∧ 7 ≤ blk - p % blk ∧ 1 ≤ rdn f (p + 6) ∧ rdn f (p + 6) ≤ 4 ∧ nN f p ≤ blk - p % blk - 7 ∧ bentN f p d o = true ∧ l = [] ∧ how = 2) ∨
    (p + 7 + nN f p ≤ f.length ∧ 7 ≤ blk - p % blk ∧ nN f p ≤ blk - p % blk - 7 ∧ bentN f p d o = false ∧ (rdn f (p + 6) = 2 ∨ rdn f (p + 6) = 3) ∧ Reads blk f (p + 7 + nN f p) (d ++ dataN f p) true l how) ∨
    (p + 7 + nN f p ≤ f.length ∧ 7 ≤ blk - p % blk ∧ nN f p ≤ blk - p % blk - 7 ∧ bentN f p d o = false ∧ (rdn f (p + 6) = 1 ∨ rdn f (p + 6) = 4) ∧ ∃ l', l = (p + 7 + nN f p, d ++ dataN f p) :: l' ∧ Reads blk f (p + 7 + nN f p) [] false l' how) := by
  cases h with
  | fin _ _ _ h1 => exact .inl ⟨h1, rfl, rfl⟩
  | pad _ _ _ _ _ h1 h2 h3 h4 => exact .inr (.inl ⟨h1, h2, h3, h4⟩)
  | padBent _ _ _ i h1 h2 h3 h4 h5 h6 => exact .inr (.inr (.inl ⟨h1, h2, rfl, rfl, i, h3, h4, h5, h6⟩))
  | short _ _ _ h1 h2 h3 => exact .inr (.inr (.inr (.inl ⟨h1, h2, h3, rfl, rfl⟩)))
  | none _ _ _ h1 h2 h3 => exact .inr (.inr (.inr (.inr (.inl ⟨h1, h2, h3, rfl, rfl⟩))))
  | torn _ _ _ h1 h2 h3 h4 h5 h6 => exact .inr (.inr (.inr (.inr (.inr (.inl ⟨h1, h2, h3, h4, h5, h6, rfl, rfl⟩)))))
  | bent _ _ _ h1 h2 h3 h4 h5 h6 => exact .inr (.inr (.inr (.inr (.inr (.inr (.inl ⟨h1, h2, h3, h4, h5, h6, rfl, rfl⟩))))))
  | more _ _ _ _ _ h1 h2 h3 h4 h5 h6 => exact .inr (.inr (.inr (.inr (.inr (.inr (.inr (.inl ⟨h1, h2, h3, h4, h5, h6⟩)))))))
  | whole _ _ _ l' _ h1 h2 h3 h4 h5 h6 => exact .inr (.inr (.inr (.inr (.inr (.inr (.inr (.inr ⟨h1, h2, h3, h4, h5, l', rfl, h6⟩)))))))
/-- what is yielded: the place behind a record, the record, its slice, the heap's size when it began -/
abbrev Yx := Nat × List Int × Value × Nat
def encY (x : Yx) : Array Value := #[.int .i64 (x.1 : Int), x.2.2.1]
def outY (x : Yx) : Nat × List Int := (x.1, x.2.1)
def OkY (x : Yx) (A : World) : Prop := Kd.R (Kd.int .u8) 5 A x.2.2.2 (fun _ => True) x.2.2.1 x.2.1
theorem RdAt.chg {W W1 : World} {R blk n c p : Nat} {A : Option Addr} {v : Value} {o : Bool} {M : Nat → Prop} (h : RdAt W R blk A n c p v o) (hc : Chg M W W1) (hm : ¬ M R) : RdAt W1 R blk A n c p v o := (hc.block R (blk_lt h) hm).trans h
theorem RdAt.drewN {W : World} {R blk n c p : Nat} {A : Option Addr} {v : Value} {o : Bool} (h : RdAt W R blk A n c p v o) (m : Nat) : RdAt (W.drewN m) R blk A n c p v o := h
theorem Chg.drewN (M : Nat → Prop) (W : World) (m : Nat) : Chg M W (W.drewN m) := Chg.below (pw_below_drewN (Below.refl _ _) m)
theorem below_chg {w W W1 : World} {M : Nat → Prop} (h : Below w.heap.size w W) (hc : Chg M W W1) (hm : ∀ k, M k → w.heap.size ≤ k) : Below w.heap.size w W1 :=
  ⟨hc.os.trans h.os, hc.tape.trans h.tape, hc.output.trans h.output, Nat.le_trans h.size hc.size, fun k hk => (hc.block k (Nat.lt_of_lt_of_le hk h.size) (fun hx => by have := hm k hx; omega)).trans (h.block k hk)⟩
theorem i64_or_small (a b : Nat) (ha : a < 4294967296) (hb : b < 4294967296) : bits .or .i64 (a : Int) (b : Int) = ((a ||| b : Nat) : Int) := by
  have hx : a ||| b < 2 ^ 32 := Nat.or_lt_two_pow (by omega) (by omega)
  show IntKind.i64.wrap ((BitVec.ofInt 64 (a : Int) ||| BitVec.ofInt 64 (b : Int)).toNat : Int) = _
  rw [BitVec.toNat_or, ofInt_u64 a (by omega), ofInt_u64 b (by omega)]
  exact Lib.wrap_i64_small _ (by omega)
theorem or_i64 (x0 x1 : Nat) (h0 : x0 < 256) (h1 : x1 < 256) : bits .or .i64 (x0 : Int) ((x1 : Int) * 256) = ((x0 + 256 * x1 : Nat) : Int) := by
  rw [show (x1 : Int) * 256 = ((2 ^ 8 * x1 : Nat) : Int) by omega, i64_or_small _ _ (by omega) (by omega), Nat.or_comm, ← Nat.two_pow_add_eq_or_of_lt (by omega : x0 < 2 ^ 8) x1]
  omega
theorem data_cut (f : List Int) (p n : Nat) : ((f.drop p).take (7 + n)).drop 7 = (f.drop (p + 7)).take n := by
  rw [List.drop_take, List.drop_drop, show 7 + n - 7 = n by omega]
theorem RdAt.set2 {W : World} {R blk n c p : Nat} {A : Option Addr} {v : Value} {o : Bool} (h : RdAt W R blk A n c p v o) (p' : Nat) : RdAt (W.setCell ⟨R, 2, none⟩ (.int .i64 (p' : Int))) R blk A n c p' v o := blk_put h 2 _ rfl
theorem RdAt.set3 {W : World} {R blk n c p : Nat} {A : Option Addr} {v : Value} {o : Bool} (h : RdAt W R blk A n c p v o) (v' : Value) (hv : v'.oneCell' = true) : RdAt (W.setCell ⟨R, 3, none⟩ v') R blk A n c p v' o := blk_put h 3 _ rfl
theorem RdAt.set4 {W : World} {R blk n c p : Nat} {A : Option Addr} {v : Value} {o : Bool} (h : RdAt W R blk A n c p v o) (o' : Bool) : RdAt (W.setCell ⟨R, 4, none⟩ (.bool o')) R blk A n c p v o' := blk_put h 4 _ rfl
theorem RdAt.frozen {W : World} {R blk n c p : Nat} {A : Option Addr} {v : Value} {o : Bool} (h : RdAt W R blk A n c p v o) (j : Nat) : W.frozen? ⟨R, j, none⟩ = false := blk_frozen h j
theorem chg_grown {M : Nat → Prop} {Y W W1 : World} {row : Option Nat} (h : Chg M Y W) (hg : W.grownBy W1 row) (hm : ∀ k, row = some k → Y.heap.size ≤ k) : Chg M Y W1 :=
  ⟨hg.os.trans h.os, hg.tape.trans h.tape, hg.output.trans h.output, Nat.le_trans h.size hg.size, fun k hk hn => (hg.block k (Nat.lt_of_lt_of_le hk h.size) (fun e => by have := hm k e.symm; omega)).trans (h.block k hk hn)⟩
theorem RdAt.below {W W1 : World} {R blk n c p : Nat} {A : Option Addr} {v : Value} {o : Bool} (h : RdAt W R blk A n c p v o) (hb : Below W.heap.size W W1) : RdAt W1 R blk A n c p v o := (hb.block R (blk_lt h)).trans h
theorem R_rd {W : World} {R blk n c p : Nat} {A : Option Addr} {v : Value} {o : Bool} {b : Nat} {ok : Nat → Prop} {u : Value} {xs : List Int} (h : Kd.R (Kd.int .u8) 5 W b ok u xs) (hr : RdAt W R blk A n c p v o) (j : Nat) (x : Value) : Kd.R (Kd.int .u8) 5 (W.setCell ⟨R, j, none⟩ x) b ok u xs := Kd.R_set h hr (by decide) j x
theorem drew2 (W : World) (a b : Nat) : ∃ nd, (W.drewN a).drewN b = W.drewN nd := ⟨a + b, by simp⟩
def MY (R B : Nat) (V : Nat → Prop) (k : Nat) : Prop := k = R ∨ V k ∨ B ≤ k
set_option maxHeartbeats 16000000 in
set_option maxRecDepth 100000 in
theorem goOn_calls (l m R blk B0 : Nat) (A : Option Addr) (c : Nat) (f : List Int) (wf W : World) (M V : Nat → Prop) (J Jx : List Yx → World → Prop) (outs : List (Nat × List Int)) (how : Nat)
    (h1 : 32 ≤ blk) (h2 : blk ≤ 32768) (hR : RdAt W R blk A f.length c 0 (.slice none 0 0) false) (hC : Kd.C (Kd.int .u8) wf A f.length f) (hc : f.length ≤ c) (hb : Byt f) (hl : f.length ≤ 1099511627776) (hwf : Below wf.heap.size wf W) (hT : TabAt wf)
    (hMR : M R) (hRf : wf.heap.size ≤ R) (hV : ∀ k, V k → wf.heap.size ≤ k ∧ k ≠ R) (hRB : R < B0) (hBW : B0 ≤ W.heap.size)
    (hJ : ∀ s X Y, J s X → Chg M X Y → J s Y)
    (hY : ∀ pre x X, J pre X → (∃ Y, J pre Y ∧ Y.heap.size ≤ x.2.2.2) → B0 ≤ X.heap.size → OkY x X → (pre ++ [x]).map outY <+: outs → YieldAt Fence.wide m Tryd.prog l (encY x) X fun e Y =>
      (e = .returned (.bool true) ∧ J (pre ++ [x]) Y ∧ Chg (fun k => V k ∨ B0 ≤ k) X Y) ∨ (e = .returned (.bool false) ∧ Jx (pre ++ [x]) Y ∧ Chg (fun k => V k ∨ B0 ≤ k) X Y))
    (h0 : J [] W) (hrd : Reads blk f 0 [] false outs how) :
    Calls Tryd.prog 34 #[.pointer (some ⟨R, 0, none⟩), .func (.yield l) #[] #[]] W fun e Y => Chg (MY R B0 V) W Y ∧
      ((∃ xs, e = .returned (.int .i64 (how : Int)) ∧ xs.map outY = outs ∧ J xs Y) ∨ (∃ pre, e = .returned (.int .i64 0) ∧ pre.map outY <+: outs ∧ Jx pre Y)) := by
  have HC := Aside0.mk hC
  have HCC := Aside0.mk hc
  have HBY := Aside0.mk hb
  have HLEN := Aside0.mk hl
  have HWF := Aside0.mk hwf
  have HT := Aside0.mk hT
  have HMR := Aside0.mk hMR
  have HV := Aside0.mk hV
  have HRB := Aside0.mk hRB
  have HRF := Aside0.mk hRf
  have HBW := Aside0.mk hBW
  have HJ := Aside0.mk hJ
  have HY := Aside0.mk hY
  have H0 := Aside0.mk h0
  have HRD0 := Aside0.mk hrd
  have HR0 := Aside0.mk hR
  have HWM := Aside0.mk (fun Y (hY : Chg (MY R B0 V) W Y) => below_chg hwf hY (by rintro k (rfl | h | h); exact hRf; exact (hV k h).1; omega))
  have hinfo : (Tryd.prog.info? 5).map (fun i => (i.zero, i.size, i.bytes)) = some (some (.int .u8 0), 1, 1) := by kernel_rfl
  have HI := Aside0.mk hinfo
  clear hC hc hb hl hwf hT hMR hV hRB hRf hBW hJ hY h0 hrd hR hinfo
  go_enter Tryd.func34, Tryd.ntmps34
  go_wp2
  go_step3
  go_wp2
  go_step3
  go_wp2
  go_loopg [] f.length (fun kq wr => ∃ (pre : List Yx) (Y : World) (p : Nat) (d : List Int) (v : Value) (o : Bool) (outs' : List (Nat × List Int)), p ≤ 1099511700000 ∧ f.length ≤ p + kq ∧ Aside0 (RdAt wr R blk A f.length c p v o) ∧ Aside0 (Reads blk f p d o outs' how) ∧ Aside0 (pre.map outY ++ outs' = outs) ∧ Aside0 (J pre Y) ∧ Aside0 (Chg M Y wr) ∧ Aside0 (B0 ≤ Y.heap.size) ∧ Aside0 (Kd.R (Kd.int .u8) 5 wr Y.heap.size (fun _ => True) v d) ∧ Aside0 (d.length ≤ p) ∧ Aside0 (Chg (MY R B0 V) W wr))
  case atStart => exact ⟨[], W, 0, [], .slice none 0 0, false, outs, by omega, by omega, HR0, HRD0, ⟨rfl⟩, H0, ⟨Chg.refl _ _⟩, HBW, ⟨Kd.R_nil _ _ _ _ _⟩, ⟨by simp⟩, ⟨Chg.refl _ _⟩⟩
  case round =>
    obtain ⟨G, rfl⟩ : ∃ G, G = gk := ⟨gk, rfl⟩
    obtain ⟨pre, Y, p, d, v, o, outs', hp0, hkq, HR, HRD, HOUT, HJY, HCY, HBY0, HD, HDL, HCW⟩ := hrel
    obtain ⟨Av, cv, rfl⟩ := Kd.R_slice HD.out
    have hcs := HR.out.c
    obtain ⟨c0, c1, c2, c3, c4⟩ := hcs
    obtain ⟨pm, hpm⟩ : ∃ pm, p % blk = pm := ⟨_, rfl⟩
    have hpmlt : pm < blk := by rw [← hpm]; exact Nat.mod_lt _ (by omega)
    have hpmi : (p : Int) % (blk : Int) = (pm : Int) := by omega
    have hblk0 : ((blk : Int) == 0) = false := by simp; omega
    have hlen0 := HLEN.out
    have hrs := HRD.out.split
    rw [hpm] at hrs
    have HPM := Aside0.mk hpm
    clear hpm HRD
    by_cases hpl : p < f.length
    rotate_left
    · -- the file's end
      have hq : outs' = [] ∧ how = (if o then 1 else 0) := by
        rcases hrs with ⟨_, q2, q3⟩ | ⟨q1, _⟩ | ⟨q1, _⟩ | ⟨q1, _⟩ | ⟨q1, _⟩ | ⟨q1, _⟩ | ⟨q1, _⟩ | ⟨q1, _⟩ | ⟨q1, _⟩
        · exact ⟨q2, q3⟩
        all_goals omega
      have Q2 := Aside0.mk hq.1
      have Q3 := Aside0.mk hq.2
      clear hq hrs
      have b1 : decide ((p : Int) < (f.length : Int)) = false := decide_eq_false (by omega)
      have b2 : decide (p < f.length) = false := decide_eq_false (by omega)
      cases o
      all_goals
        go_wp2
        go_quiet (fail)
        all_goals go_wp2
        all_goals
          rw [Exit.noGoto_ret]
          go_ret
          exact ⟨HCW.out.trans (by repeat (first | exact Chg.refl _ _ | exact Chg.drewN _ _ _ | refine Chg.trans ?_ (Chg.drewN _ _ _))), .inl ⟨pre, by rw [Q3.out]; first | rfl | (simp [*]; done), by have := HOUT.out; rw [Q2.out, List.append_nil] at this; exact this, HJ.out _ _ _ HJY.out (HCY.out.trans (by repeat (first | exact Chg.refl _ _ | exact Chg.drewN _ _ _ | refine Chg.trans ?_ (Chg.drewN _ _ _))))⟩⟩
    have HRS := Aside0.mk hrs
    have b1 : decide ((p : Int) < (f.length : Int)) = true := decide_eq_true (by omega)
    have b2 : decide (p < f.length) = true := decide_eq_true (by omega)
    obtain ⟨ad, e1, _⟩ := byte_at (Kd.C_below HC.out (HWM.out wr HCW.out)) p hpl HBY.out
    subst e1
    clear hrs
    go_wp2
    go_quiet (fail)
    all_goals go_wp2
    go_quiet (fail)
    all_goals go_wp2
    go_loopg [] 1 (fun _ w3 => ∃ nd, w3 = wr.drewN nd)
    case atStart => exact drew2 _ _ _
    obtain ⟨nd, rfl⟩ := hrel
    rcases HRS.out with ⟨q1, q2, q3⟩ | ⟨q1, q2, q3, q4⟩ | ⟨q1, q2, q3, q4, i0, q5, q6, q7, q8⟩ | ⟨q1, q2, q3, q4, q5⟩ | ⟨q1, q2, q3, q4, q5⟩ | ⟨q1, q2, q3, q4, q5, q6, q7, q8⟩ | ⟨q1, q2, q3, q4, q5, q6, q7, q8⟩ | ⟨q1, q2, q3, q4, q5, q6⟩ | ⟨q1, q2, q3, q4, q5, l', q6, q7⟩
    · omega
    · -- noughts behind which nothing fits
      have Q3 := Aside0.mk q3
      have Q4 := Aside0.mk q4
      clear q3 q4
      have b3 : decide ((blk : Int) - (pm : Int) < 7) = true := decide_eq_true (by omega)
      obtain ⟨hi, hhi⟩ : ∃ hi, min (p + (blk - pm)) f.length = hi := ⟨_, rfl⟩
      have hhip : p < hi := by omega
      have hhil : hi ≤ f.length := by omega
      have hmn1 : (if (f.length : Int) < (p : Int) + ((blk : Int) - (pm : Int)) then (f.length : Int) else (p : Int) + ((blk : Int) - (pm : Int))) = (hi : Int) := by split <;> omega
      rw [hhi] at Q3 Q4
      obtain ⟨i1, hi0, _, hsz0, _⟩ := info_parts HI.out
      have hcut := cut_mid (P := Tryd.prog) 22 5 .i64 .i64 Tryd.underlying22 hi0 1 hsz0 (some ad) f.length c (p : Int) (hi : Int) (by omega) (by omega) (by omega) HCC.out
      rw [Int.toNat_natCast, Int.toNat_natCast, if_neg (by have := HCC.out; omega)] at hcut
      simp only [Option.map_some, Nat.mul_one] at hcut
      obtain ⟨k2, hk2⟩ : ∃ k2, hi - p = k2 := ⟨_, rfl⟩
      obtain ⟨c2', hc2'⟩ : ∃ c2', c - p = c2' := ⟨_, rfl⟩
      rw [hk2, hc2'] at hcut
      obtain ⟨q, hq⟩ : ∃ q, ad.add p = q := ⟨_, rfl⟩
      rw [hq] at hcut
      have HQ := Aside0.mk hq
      have HHI := Aside0.mk hhi
      have HK2 := Aside0.mk hk2
      clear hi0 hsz0 hc2' hq hhi hk2
      go_wp2
      go_quiet (fail)
      all_goals go_wp2
      have HRp := Aside0.mk (show RdAt (wr.drewN nd) R blk (some ad) f.length c (p + 0) (.slice Av d.length cv) o from HR.out)
      clear hcut c0 c1 c2 c3 c4 hmn1
      go_loopg [61] k2 (fun kq v61 wi => ∃ i : Nat, v61 = .int .i64 (i : Int) ∧ k2 ≤ i + kq ∧ i ≤ k2 ∧ Aside0 (RdAt wi R blk (some ad) f.length c (p + i) (.slice Av d.length cv) o) ∧ Aside0 (Chg M Y wi) ∧ Aside0 (Chg (MY R B0 V) W wi) ∧ Aside0 (Kd.R (Kd.int .u8) 5 wi Y.heap.size (fun _ => True) (.slice Av d.length cv) d))
      case atStart => exact ⟨0, rfl, by omega, by omega, ⟨(HR.out.drewN _).drewN _⟩, ⟨HCY.out.trans (by repeat (first | exact Chg.refl _ _ | exact Chg.drewN _ _ _ | refine Chg.trans ?_ (Chg.drewN _ _ _)))⟩, ⟨HCW.out.trans (by repeat (first | exact Chg.refl _ _ | exact Chg.drewN _ _ _ | refine Chg.trans ?_ (Chg.drewN _ _ _)))⟩, ⟨Kd.R_drewN (Kd.R_drewN HD.out _) _⟩⟩
      obtain ⟨i, rfl, hik, hi2, HRi, HCYi, HCWi, HDi⟩ := hrel
      by_cases hlt : i < k2
      · have b5 : decide ((i : Int) < (k2 : Int)) = true := decide_eq_true (by omega)
        have hki := HK2.out
        obtain ⟨ad2, e2, hbyte⟩ := byte_at (Kd.C_below HC.out (HWM.out wr HCWi.out)) (p + i) (by omega) HBY.out
        cases e2
        rw [← addr_add2, HQ.out] at hbyte
        have hxc := HRi.out.c.2.2.1
        have hxf := HRi.out.frozen 2
        have hpb : p + i ≤ f.length := by omega
        have HG := Aside0.mk hik
        clear hik
        rw [Q3.out (p + i) (by omega) (by omega)] at hbyte
        go_wp2
        go_roundg (gk - 1)
        case measure => have := HG.out; omega
        case rel =>
          have hpe : ((p + (i + 1) : Nat) : Int) = (p : Int) + (i : Int) + 1 := by omega
          have hrf := HRi.out.set2 (p + (i + 1))
          have hdf := R_rd HDi.out HRi.out 2 (.int .i64 ((p + (i + 1) : Nat) : Int))
          rw [hpe] at hrf hdf
          have hg := HG.out
          exact ⟨i + 1, by go_num, by omega, by omega, ⟨hrf⟩, ⟨HCYi.out.trans (Chg.set _ _ R 2 _ HMR.out)⟩, ⟨HCWi.out.trans (Chg.set _ _ R 2 _ (.inl rfl))⟩, ⟨hdf⟩⟩
      · obtain rfl : i = k2 := by omega
        have b5 : decide ((i : Int) < (i : Int)) = false := decide_eq_false (by omega)
        have hki := HK2.out
        have hhi2 : p + i = hi := by omega
        rw [hhi2] at HRi
        go_wp2
        go_roundg (G - 1)
        case measure => omega
        case rel => exact ⟨pre, Y, hi, d, .slice Av d.length cv, o, outs', by omega, by omega, HRi, Q4, HOUT, HJY, HCYi, HBY0, HDi, ⟨by have := HDL.out; omega⟩, HCWi⟩
    · -- something else where noughts should stand
      have Q2 := Aside0.mk q3
      have Q3 := Aside0.mk q4
      have Q8 := Aside0.mk q8
      clear q3 q4 q8
      have b3 : decide ((blk : Int) - (pm : Int) < 7) = true := decide_eq_true (by omega)
      obtain ⟨hi, hhi⟩ : ∃ hi, min (p + (blk - pm)) f.length = hi := ⟨_, rfl⟩
      have hhip : p < hi := by omega
      have hhil : hi ≤ f.length := by omega
      have hmn1 : (if (f.length : Int) < (p : Int) + ((blk : Int) - (pm : Int)) then (f.length : Int) else (p : Int) + ((blk : Int) - (pm : Int))) = (hi : Int) := by split <;> omega
      rw [hhi] at q6
      obtain ⟨i1, hi0, _, hsz0, _⟩ := info_parts HI.out
      have hcut := cut_mid (P := Tryd.prog) 22 5 .i64 .i64 Tryd.underlying22 hi0 1 hsz0 (some ad) f.length c (p : Int) (hi : Int) (by omega) (by omega) (by omega) HCC.out
      rw [Int.toNat_natCast, Int.toNat_natCast, if_neg (by have := HCC.out; omega)] at hcut
      simp only [Option.map_some, Nat.mul_one] at hcut
      obtain ⟨k2, hk2⟩ : ∃ k2, hi - p = k2 := ⟨_, rfl⟩
      obtain ⟨c2', hc2'⟩ : ∃ c2', c - p = c2' := ⟨_, rfl⟩
      rw [hk2, hc2'] at hcut
      obtain ⟨q, hq⟩ : ∃ q, ad.add p = q := ⟨_, rfl⟩
      rw [hq] at hcut
      have HQ := Aside0.mk hq
      have HHI := Aside0.mk hhi
      have HK2 := Aside0.mk hk2
      clear hi0 hsz0 hc2' hq hhi hk2
      go_wp2
      go_quiet (fail)
      all_goals go_wp2
      have HRp := Aside0.mk (show RdAt (wr.drewN nd) R blk (some ad) f.length c (p + 0) (.slice Av d.length cv) o from HR.out)
      clear hcut c0 c1 c2 c3 c4 hmn1
      go_loopg [61] k2 (fun kq v61 wi => ∃ i : Nat, v61 = .int .i64 (i : Int) ∧ k2 ≤ i + kq ∧ i ≤ k2 ∧ p + i ≤ i0 ∧ Aside0 (RdAt wi R blk (some ad) f.length c (p + i) (.slice Av d.length cv) o) ∧ Aside0 (Chg M Y wi) ∧ Aside0 (Chg (MY R B0 V) W wi) ∧ Aside0 (Kd.R (Kd.int .u8) 5 wi Y.heap.size (fun _ => True) (.slice Av d.length cv) d))
      case atStart => exact ⟨0, rfl, by omega, by omega, by omega, ⟨(HR.out.drewN _).drewN _⟩, ⟨HCY.out.trans (by repeat (first | exact Chg.refl _ _ | exact Chg.drewN _ _ _ | refine Chg.trans ?_ (Chg.drewN _ _ _)))⟩, ⟨HCW.out.trans (by repeat (first | exact Chg.refl _ _ | exact Chg.drewN _ _ _ | refine Chg.trans ?_ (Chg.drewN _ _ _)))⟩, ⟨Kd.R_drewN (Kd.R_drewN HD.out _) _⟩⟩
      obtain ⟨i, rfl, hik, hi2, hi3, HRi, HCYi, HCWi, HDi⟩ := hrel
      by_cases hlt : i < k2
      · have b5 : decide ((i : Int) < (k2 : Int)) = true := decide_eq_true (by omega)
        have hki := HK2.out
        obtain ⟨ad2, e2, hbyte⟩ := byte_at (Kd.C_below HC.out (HWM.out wr HCWi.out)) (p + i) (by omega) HBY.out
        cases e2
        rw [← addr_add2, HQ.out] at hbyte
        have hxc := HRi.out.c.2.2.1
        have hxf := HRi.out.frozen 2
        have hpb : p + i ≤ f.length := by omega
        have HG := Aside0.mk hik
        clear hik
        by_cases hz : p + i = i0
        · have hne : rdn f (p + i) ≠ 0 := by rw [hz]; exact q7
          obtain ⟨x, hx⟩ : ∃ x, rdn f (p + i) = x := ⟨_, rfl⟩
          rw [hx] at hbyte hne
          have b6 : ((x : Int) != 0) = true := by simp; omega
          have b7 : ((x : Int) == 0) = false := by simp; omega
          go_wp2
          all_goals
            rw [Exit.noGoto_ret]
            go_ret
            exact ⟨HCWi.out, .inl ⟨pre, by rw [Q3.out]; first | rfl | (simp [*]; done), by have := HOUT.out; rw [Q2.out, List.append_nil] at this; exact this, HJ.out _ _ _ HJY.out HCYi.out⟩⟩
        · rw [Q8.out (p + i) (by omega) (by omega)] at hbyte
          go_wp2
          go_roundg (gk - 1)
          case measure => have := HG.out; omega
          case rel =>
            have hpe : ((p + (i + 1) : Nat) : Int) = (p : Int) + (i : Int) + 1 := by omega
            have hrf := HRi.out.set2 (p + (i + 1))
            have hdf := R_rd HDi.out HRi.out 2 (.int .i64 ((p + (i + 1) : Nat) : Int))
            rw [hpe] at hrf hdf
            have hg := HG.out
            exact ⟨i + 1, by go_num, by omega, by omega, by omega, ⟨hrf⟩, ⟨HCYi.out.trans (Chg.set _ _ R 2 _ HMR.out)⟩, ⟨HCWi.out.trans (Chg.set _ _ R 2 _ (.inl rfl))⟩, ⟨hdf⟩⟩
      · exfalso
        have hki := HK2.out
        omega
    · -- no head
      have Q2 := Aside0.mk q4
      have Q3 := Aside0.mk q5
      clear q4 q5
      have b3 : decide ((blk : Int) - (pm : Int) < 7) = false := decide_eq_false (by omega)
      obtain ⟨i0, hi0, _, hsz0, _⟩ := info_parts HI.out
      have hcut := cut_from (P := Tryd.prog) 22 5 .i64 Tryd.underlying22 hi0 1 hsz0 (some ad) f.length c (p : Int) (by omega) (by omega)
      rw [Int.toNat_natCast, if_neg (by have := HCC.out; omega)] at hcut
      simp only [Option.map_some, Nat.mul_one] at hcut
      obtain ⟨m2, hm2⟩ : ∃ m2, f.length - p = m2 := ⟨_, rfl⟩
      obtain ⟨c2', hc2'⟩ : ∃ c2', c - p = c2' := ⟨_, rfl⟩
      rw [hm2, hc2'] at hcut
      have b4 : decide ((m2 : Int) < 7) = true := decide_eq_true (by omega)
      clear hi0 hsz0 hm2 hc2'
      go_wp2
      go_quiet (fail)
      all_goals go_wp2
      all_goals
        rw [Exit.noGoto_ret]
        go_ret
        exact ⟨HCW.out.trans (by repeat (first | exact Chg.refl _ _ | exact Chg.drewN _ _ _ | refine Chg.trans ?_ (Chg.drewN _ _ _))), .inl ⟨pre, by rw [Q3.out]; first | rfl | (simp [*]; done), by have := HOUT.out; rw [Q2.out, List.append_nil] at this; exact this, HJ.out _ _ _ HJY.out (HCY.out.trans (by repeat (first | exact Chg.refl _ _ | exact Chg.drewN _ _ _ | refine Chg.trans ?_ (Chg.drewN _ _ _))))⟩⟩
    · -- no piece
      have Q2 := Aside0.mk q4
      have Q3 := Aside0.mk q5
      clear q4 q5
      have b3 : decide ((blk : Int) - (pm : Int) < 7) = false := decide_eq_false (by omega)
      obtain ⟨i1, hi0, _, hsz0, _⟩ := info_parts HI.out
      have hcut := cut_from (P := Tryd.prog) 22 5 .i64 Tryd.underlying22 hi0 1 hsz0 (some ad) f.length c (p : Int) (by omega) (by omega)
      rw [Int.toNat_natCast, if_neg (by have := HCC.out; omega)] at hcut
      simp only [Option.map_some, Nat.mul_one] at hcut
      obtain ⟨m2, hm2⟩ : ∃ m2, f.length - p = m2 := ⟨_, rfl⟩
      obtain ⟨c2', hc2'⟩ : ∃ c2', c - p = c2' := ⟨_, rfl⟩
      rw [hm2, hc2'] at hcut
      have b4 : decide ((m2 : Int) < 7) = false := decide_eq_false (by omega)
      have z4 : (4 : Int) < (m2 : Int) := by omega
      have z5 : (5 : Int) < (m2 : Int) := by omega
      have z6 : (6 : Int) < (m2 : Int) := by omega
      have y4 : 4 < m2 := by omega
      have y5 : 5 < m2 := by omega
      have y6 : 6 < m2 := by omega
      have HCwr := Kd.C_below HC.out (HWM.out wr HCW.out)
      obtain ⟨ad4, e4, r4⟩ := byte_at HCwr (p + 4) (by omega) HBY.out
      obtain ⟨ad5, e5, r5⟩ := byte_at HCwr (p + 5) (by omega) HBY.out
      obtain ⟨ad6, e6, r6⟩ := byte_at HCwr (p + 6) (by omega) HBY.out
      cases e4; cases e5; cases e6
      have s4 := (rdn_int f (p + 4) HBY.out).2
      have s5 := (rdn_int f (p + 5) HBY.out).2
      have s6 := (rdn_int f (p + 6) HBY.out).2
      have r4' : wr.cell? ((ad.add p).add 4) = some (.int .u8 ((rdn f (p + 4) : Nat) : Int)) := by rw [addr_add2]; exact r4
      have r5' : wr.cell? ((ad.add p).add 5) = some (.int .u8 ((rdn f (p + 5) : Nat) : Int)) := by rw [addr_add2]; exact r5
      have r6' : wr.cell? ((ad.add p).add 6) = some (.int .u8 ((rdn f (p + 6) : Nat) : Int)) := by rw [addr_add2]; exact r6
      obtain ⟨q, hq⟩ : ∃ q, ad.add p = q := ⟨_, rfl⟩
      rw [hq] at hcut r4' r5' r6'
      simp [Addr.add] at r4' r5' r6'
      have HNN := Aside0.mk (show nN f p = rdn f (p + 4) + 256 * rdn f (p + 5) from rfl)
      have hnb : nN f p < 65536 := by have := HNN.out; omega
      obtain ⟨n, hn⟩ : ∃ n, nN f p = n := ⟨_, rfl⟩
      obtain ⟨kd, hkd⟩ : ∃ kd, rdn f (p + 6) = kd := ⟨_, rfl⟩
      obtain ⟨x4, hx4⟩ : ∃ x4, rdn f (p + 4) = x4 := ⟨_, rfl⟩
      obtain ⟨x5, hx5⟩ : ∃ x5, rdn f (p + 5) = x5 := ⟨_, rfl⟩
      have hn3 := HNN.out
      rw [hx4, hx5, hn] at hn3
      rw [hx4] at r4' s4
      rw [hx5] at r5' s5
      rw [hkd] at r6' s6
      rw [hn] at hnb
      rw [hn, hkd] at q3
      have HN3 := Aside0.mk hn3
      have HNV := Aside0.mk hn
      have HKV := Aside0.mk hkd
      have HM2 := Aside0.mk hm2
      have HQ := Aside0.mk hq
      clear hi0 hsz0 hm2 hc2' hx4 hx5 hn hkd hq HNN HCwr r4 r5 r6 hn3
      go_wp2
      go_quiet (fail)
      all_goals go_wp2
      go_quiet (fail)
      all_goals go_wp2
      rw [or_i64 x4 x5 s4 s5, ← HN3.out]
      by_cases k1 : kd < 1
      · skip
        have b5 : decide ((kd : Int) < 1) = true := decide_eq_true (by omega)
        have b5' : decide (kd < 1) = true := decide_eq_true (by omega)
        go_quiet (fail)
        all_goals go_wp2
        all_goals
          rw [Exit.noGoto_ret]
          go_ret
          exact ⟨HCW.out.trans (by repeat (first | exact Chg.refl _ _ | exact Chg.drewN _ _ _ | refine Chg.trans ?_ (Chg.drewN _ _ _))), .inl ⟨pre, by rw [Q3.out]; first | rfl | (simp [*]; done), by have := HOUT.out; rw [Q2.out, List.append_nil] at this; exact this, HJ.out _ _ _ HJY.out (HCY.out.trans (by repeat (first | exact Chg.refl _ _ | exact Chg.drewN _ _ _ | refine Chg.trans ?_ (Chg.drewN _ _ _))))⟩⟩
      · by_cases k2 : 4 < kd
        · skip
          have b5 : decide ((kd : Int) < 1) = false := decide_eq_false (by omega)
          have b6 : decide ((kd : Int) > 4) = true := decide_eq_true (by omega)
          have b6' : decide (4 < kd) = true := decide_eq_true (by omega)
          go_quiet (fail)
          all_goals go_wp2
          all_goals
            rw [Exit.noGoto_ret]
            go_ret
            exact ⟨HCW.out.trans (by repeat (first | exact Chg.refl _ _ | exact Chg.drewN _ _ _ | refine Chg.trans ?_ (Chg.drewN _ _ _))), .inl ⟨pre, by rw [Q3.out]; first | rfl | (simp [*]; done), by have := HOUT.out; rw [Q2.out, List.append_nil] at this; exact this, HJ.out _ _ _ HJY.out (HCY.out.trans (by repeat (first | exact Chg.refl _ _ | exact Chg.drewN _ _ _ | refine Chg.trans ?_ (Chg.drewN _ _ _))))⟩⟩
        · skip
          have b5 : decide ((kd : Int) < 1) = false := decide_eq_false (by omega)
          have b6 : decide ((kd : Int) > 4) = false := decide_eq_false (by omega)
          have b6' : decide (4 < kd) = false := decide_eq_false (by omega)
          have b7 : decide ((n : Int) > (blk : Int) - (pm : Int) - 7) = true := decide_eq_true (by omega)
          have b7' : decide ((blk : Int) - (pm : Int) - 7 < (n : Int)) = true := decide_eq_true (by omega)
          go_quiet (fail)
          all_goals go_wp2
          all_goals
            rw [Exit.noGoto_ret]
            go_ret
            exact ⟨HCW.out.trans (by repeat (first | exact Chg.refl _ _ | exact Chg.drewN _ _ _ | refine Chg.trans ?_ (Chg.drewN _ _ _))), .inl ⟨pre, by rw [Q3.out]; first | rfl | (simp [*]; done), by have := HOUT.out; rw [Q2.out, List.append_nil] at this; exact this, HJ.out _ _ _ HJY.out (HCY.out.trans (by repeat (first | exact Chg.refl _ _ | exact Chg.drewN _ _ _ | refine Chg.trans ?_ (Chg.drewN _ _ _))))⟩⟩
    · -- a piece that is not whole
      have Q2 := Aside0.mk q7
      have Q3 := Aside0.mk q8
      clear q7 q8
      have b3 : decide ((blk : Int) - (pm : Int) < 7) = false := decide_eq_false (by omega)
      obtain ⟨i1, hi0, _, hsz0, _⟩ := info_parts HI.out
      have hcut := cut_from (P := Tryd.prog) 22 5 .i64 Tryd.underlying22 hi0 1 hsz0 (some ad) f.length c (p : Int) (by omega) (by omega)
      rw [Int.toNat_natCast, if_neg (by have := HCC.out; omega)] at hcut
      simp only [Option.map_some, Nat.mul_one] at hcut
      obtain ⟨m2, hm2⟩ : ∃ m2, f.length - p = m2 := ⟨_, rfl⟩
      obtain ⟨c2', hc2'⟩ : ∃ c2', c - p = c2' := ⟨_, rfl⟩
      rw [hm2, hc2'] at hcut
      have b4 : decide ((m2 : Int) < 7) = false := decide_eq_false (by omega)
      have z4 : (4 : Int) < (m2 : Int) := by omega
      have z5 : (5 : Int) < (m2 : Int) := by omega
      have z6 : (6 : Int) < (m2 : Int) := by omega
      have y4 : 4 < m2 := by omega
      have y5 : 5 < m2 := by omega
      have y6 : 6 < m2 := by omega
      have HCwr := Kd.C_below HC.out (HWM.out wr HCW.out)
      obtain ⟨ad4, e4, r4⟩ := byte_at HCwr (p + 4) (by omega) HBY.out
      obtain ⟨ad5, e5, r5⟩ := byte_at HCwr (p + 5) (by omega) HBY.out
      obtain ⟨ad6, e6, r6⟩ := byte_at HCwr (p + 6) (by omega) HBY.out
      cases e4; cases e5; cases e6
      have s4 := (rdn_int f (p + 4) HBY.out).2
      have s5 := (rdn_int f (p + 5) HBY.out).2
      have s6 := (rdn_int f (p + 6) HBY.out).2
      have r4' : wr.cell? ((ad.add p).add 4) = some (.int .u8 ((rdn f (p + 4) : Nat) : Int)) := by rw [addr_add2]; exact r4
      have r5' : wr.cell? ((ad.add p).add 5) = some (.int .u8 ((rdn f (p + 5) : Nat) : Int)) := by rw [addr_add2]; exact r5
      have r6' : wr.cell? ((ad.add p).add 6) = some (.int .u8 ((rdn f (p + 6) : Nat) : Int)) := by rw [addr_add2]; exact r6
      obtain ⟨q, hq⟩ : ∃ q, ad.add p = q := ⟨_, rfl⟩
      rw [hq] at hcut r4' r5' r6'
      simp [Addr.add] at r4' r5' r6'
      have HNN := Aside0.mk (show nN f p = rdn f (p + 4) + 256 * rdn f (p + 5) from rfl)
      have hnb : nN f p < 65536 := by have := HNN.out; omega
      obtain ⟨n, hn⟩ : ∃ n, nN f p = n := ⟨_, rfl⟩
      obtain ⟨kd, hkd⟩ : ∃ kd, rdn f (p + 6) = kd := ⟨_, rfl⟩
      obtain ⟨x4, hx4⟩ : ∃ x4, rdn f (p + 4) = x4 := ⟨_, rfl⟩
      obtain ⟨x5, hx5⟩ : ∃ x5, rdn f (p + 5) = x5 := ⟨_, rfl⟩
      have hn3 := HNN.out
      rw [hx4, hx5, hn] at hn3
      rw [hx4] at r4' s4
      rw [hx5] at r5' s5
      rw [hkd] at r6' s6
      rw [hn] at hnb
      rw [hkd] at q3 q4
      rw [hn] at q5 q6
      have HN3 := Aside0.mk hn3
      have HNV := Aside0.mk hn
      have HKV := Aside0.mk hkd
      have HM2 := Aside0.mk hm2
      have HQ := Aside0.mk hq
      clear hi0 hsz0 hm2 hc2' hx4 hx5 hn hkd hq HNN HCwr r4 r5 r6 hn3
      go_wp2
      go_quiet (fail)
      all_goals go_wp2
      go_quiet (fail)
      all_goals go_wp2
      rw [or_i64 x4 x5 s4 s5, ← HN3.out]
      have b5 : decide ((kd : Int) < 1) = false := decide_eq_false (by omega)
      have b5' : (kd == 0) = false := by simp; omega
      have b6 : decide ((kd : Int) > 4) = false := decide_eq_false (by omega)
      have b6' : decide (4 < kd) = false := decide_eq_false (by omega)
      have b7 : decide ((n : Int) > (blk : Int) - (pm : Int) - 7) = false := decide_eq_false (by omega)
      have b7' : decide ((blk : Int) - (pm : Int) - 7 < (n : Int)) = false := decide_eq_false (by omega)
      have b8 : decide ((m2 : Int) < 7 + (n : Int)) = true := decide_eq_true (by have := HM2.out; omega)
      go_quiet (fail)
      all_goals go_wp2
      all_goals
        rw [Exit.noGoto_ret]
        go_ret
        exact ⟨HCW.out.trans (by repeat (first | exact Chg.refl _ _ | exact Chg.drewN _ _ _ | refine Chg.trans ?_ (Chg.drewN _ _ _))), .inl ⟨pre, by rw [Q3.out]; first | rfl | (simp [*]; done), by have := HOUT.out; rw [Q2.out, List.append_nil] at this; exact this, HJ.out _ _ _ HJY.out (HCY.out.trans (by repeat (first | exact Chg.refl _ _ | exact Chg.drewN _ _ _ | refine Chg.trans ?_ (Chg.drewN _ _ _))))⟩⟩
    · -- a piece that can't come here
      have Q2 := Aside0.mk q7
      have Q3 := Aside0.mk q8
      have Q6 := Aside0.mk q6
      clear q6 q7 q8
      have b3 : decide ((blk : Int) - (pm : Int) < 7) = false := decide_eq_false (by omega)
      obtain ⟨i1, hi0, _, hsz0, _⟩ := info_parts HI.out
      have hcut := cut_from (P := Tryd.prog) 22 5 .i64 Tryd.underlying22 hi0 1 hsz0 (some ad) f.length c (p : Int) (by omega) (by omega)
      rw [Int.toNat_natCast, if_neg (by have := HCC.out; omega)] at hcut
      simp only [Option.map_some, Nat.mul_one] at hcut
      obtain ⟨m2, hm2⟩ : ∃ m2, f.length - p = m2 := ⟨_, rfl⟩
      obtain ⟨c2', hc2'⟩ : ∃ c2', c - p = c2' := ⟨_, rfl⟩
      rw [hm2, hc2'] at hcut
      have b4 : decide ((m2 : Int) < 7) = false := decide_eq_false (by omega)
      have z4 : (4 : Int) < (m2 : Int) := by omega
      have z5 : (5 : Int) < (m2 : Int) := by omega
      have z6 : (6 : Int) < (m2 : Int) := by omega
      have y4 : 4 < m2 := by omega
      have y5 : 5 < m2 := by omega
      have y6 : 6 < m2 := by omega
      have HCwr := Kd.C_below HC.out (HWM.out wr HCW.out)
      obtain ⟨ad4, e4, r4⟩ := byte_at HCwr (p + 4) (by omega) HBY.out
      obtain ⟨ad5, e5, r5⟩ := byte_at HCwr (p + 5) (by omega) HBY.out
      obtain ⟨ad6, e6, r6⟩ := byte_at HCwr (p + 6) (by omega) HBY.out
      cases e4; cases e5; cases e6
      have s4 := (rdn_int f (p + 4) HBY.out).2
      have s5 := (rdn_int f (p + 5) HBY.out).2
      have s6 := (rdn_int f (p + 6) HBY.out).2
      have r4' : wr.cell? ((ad.add p).add 4) = some (.int .u8 ((rdn f (p + 4) : Nat) : Int)) := by rw [addr_add2]; exact r4
      have r5' : wr.cell? ((ad.add p).add 5) = some (.int .u8 ((rdn f (p + 5) : Nat) : Int)) := by rw [addr_add2]; exact r5
      have r6' : wr.cell? ((ad.add p).add 6) = some (.int .u8 ((rdn f (p + 6) : Nat) : Int)) := by rw [addr_add2]; exact r6
      obtain ⟨q, hq⟩ : ∃ q, ad.add p = q := ⟨_, rfl⟩
      rw [hq] at hcut r4' r5' r6'
      simp [Addr.add] at r4' r5' r6'
      have HNN := Aside0.mk (show nN f p = rdn f (p + 4) + 256 * rdn f (p + 5) from rfl)
      have hnb : nN f p < 65536 := by have := HNN.out; omega
      obtain ⟨n, hn⟩ : ∃ n, nN f p = n := ⟨_, rfl⟩
      obtain ⟨kd, hkd⟩ : ∃ kd, rdn f (p + 6) = kd := ⟨_, rfl⟩
      obtain ⟨x4, hx4⟩ : ∃ x4, rdn f (p + 4) = x4 := ⟨_, rfl⟩
      obtain ⟨x5, hx5⟩ : ∃ x5, rdn f (p + 5) = x5 := ⟨_, rfl⟩
      have hn3 := HNN.out
      rw [hx4, hx5, hn] at hn3
      rw [hx4] at r4' s4
      rw [hx5] at r5' s5
      rw [hkd] at r6' s6
      rw [hn] at hnb
      rw [hkd] at q3 q4
      rw [hn] at q1 q5
      have HN3 := Aside0.mk hn3
      have HNV := Aside0.mk hn
      have HKV := Aside0.mk hkd
      have HM2 := Aside0.mk hm2
      have HQ := Aside0.mk hq
      have HC2 := Aside0.mk hc2'
      clear hi0 hsz0 hm2 hc2' hx4 hx5 hn hkd hq HNN HCwr r4 r5 r6 hn3
      go_wp2
      go_quiet (fail)
      all_goals go_wp2
      go_quiet (fail)
      all_goals go_wp2
      rw [or_i64 x4 x5 s4 s5, ← HN3.out]
      have b5 : decide ((kd : Int) < 1) = false := decide_eq_false (by omega)
      have b5' : (kd == 0) = false := by simp; omega
      have b6 : decide ((kd : Int) > 4) = false := decide_eq_false (by omega)
      have b6' : decide (4 < kd) = false := decide_eq_false (by omega)
      have b7 : decide ((n : Int) > (blk : Int) - (pm : Int) - 7) = false := decide_eq_false (by omega)
      have b7' : decide ((blk : Int) - (pm : Int) - 7 < (n : Int)) = false := decide_eq_false (by omega)
      have hq2 := HM2.out
      have b8 : decide ((m2 : Int) < 7 + (n : Int)) = false := decide_eq_false (by omega)
      obtain ⟨i2, hi2, _, hsz2, _⟩ := info_parts HI.out
      have hmc : m2 ≤ c2' := by have := HCC.out; have := HC2.out; omega
      have hcutd := cut_mid (P := Tryd.prog) 22 5 .i64 .i64 Tryd.underlying22 hi2 1 hsz2 (some q) m2 c2' 7 (7 + (n : Int)) (by omega) (by omega) (by omega) hmc
      obtain ⟨Ad, hAd⟩ : ∃ Ad, (if c2' = 7 then some q else (some q).map (·.add (7 * 1))) = Ad := ⟨_, rfl⟩
      have hcd2 : n ≤ c2' - 7 := by omega
      have hdt : Kd.C (Kd.int .u8) wf Ad n (dataN f p) := by
        have hd1 := Kd.C_drop HC.out (show p ≤ f.length by omega) HCC.out
        rw [if_neg (show ¬ c = p by have := HCC.out; omega)] at hd1
        rw [show (some ad).map (·.add (p * (Kd.int .u8).sz)) = some q by rw [← HQ.out]; show some (ad.add (p * 1)) = _; rw [Nat.mul_one]] at hd1
        have hd2 := Kd.C_mid (lo := 7) (hi := 7 + n) hd1 (by omega) (by rw [List.length_drop]; omega) (show (f.drop p).length ≤ c2' by rw [List.length_drop]; omega)
        rw [data_cut] at hd2
        have hd3 : ((f.drop (p + 7)).take n).length = n := by rw [List.length_take, List.length_drop]; omega
        rw [hd3] at hd2
        unfold dataN
        rw [HNV.out, ← hAd]
        exact hd2
      have HDT := Aside0.mk hdt
      rw [show ((7 : Int) + (n : Int)).toNat - (7 : Int).toNat = n by omega, show (7 : Int).toNat = 7 from rfl, hAd] at hcutd
      have HBC := Aside0.mk (fun W' (hW : Chg (MY R B0 V) W W') (hr : RdAt W' R blk (some ad) f.length c p (.slice Av d.length cv) o) => bent_calls R blk (some ad) c p f d (.slice Av d.length cv) o Ad (c2' - 7) W' hr (Kd.C_below HC.out (HWM.out W' hW)) HCC.out HBY.out HLEN.out (by rw [HNV.out]; omega) Av cv rfl (by have := HDL.out; have := HLEN.out; omega) (by rw [HNV.out]; exact Kd.C_below HDT.out (HWM.out W' hW)) (by rw [HNV.out]; exact hcd2) (HT.out.below (HWM.out W' hW)))
      rw [HNV.out, HKV.out] at HBC
      clear hi2 hsz2 hAd hdt
      go_quiet (fail)
      all_goals go_wp2_with fail
      (with_reducible refine (HBC.out _ (HCW.out.trans (by repeat (first | exact Chg.refl _ _ | exact Chg.drewN _ _ _ | refine Chg.trans ?_ (Chg.drewN _ _ _)))) (by exact HR.out.drewN _)).mono ?_)
      rintro e w5 ⟨rfl, hb⟩
      have HB5 := Aside0.mk hb
      clear hb
      rw [Q6.out]
      go_wp2
      all_goals
        rw [Exit.noGoto_ret]
        go_ret
        exact ⟨HCW.out.trans (by repeat (first | exact Chg.refl _ _ | exact Chg.drewN _ _ _ | exact Chg.below HB5.out | refine Chg.trans ?_ (Chg.below HB5.out) | refine Chg.trans ?_ (Chg.drewN _ _ _))), .inl ⟨pre, by rw [Q3.out]; first | rfl | (simp [*]; done), by have := HOUT.out; rw [Q2.out, List.append_nil] at this; exact this, HJ.out _ _ _ HJY.out (HCY.out.trans (by repeat (first | exact Chg.refl _ _ | exact Chg.drewN _ _ _ | exact Chg.below HB5.out | refine Chg.trans ?_ (Chg.below HB5.out) | refine Chg.trans ?_ (Chg.drewN _ _ _))))⟩⟩
    · -- a piece behind which more of the record comes
      have Q4 := Aside0.mk q4
      have Q6 := Aside0.mk q6
      clear q4 q6
      have b3 : decide ((blk : Int) - (pm : Int) < 7) = false := decide_eq_false (by omega)
      obtain ⟨i1, hi0, _, hsz0, _⟩ := info_parts HI.out
      have hcut := cut_from (P := Tryd.prog) 22 5 .i64 Tryd.underlying22 hi0 1 hsz0 (some ad) f.length c (p : Int) (by omega) (by omega)
      rw [Int.toNat_natCast, if_neg (by have := HCC.out; omega)] at hcut
      simp only [Option.map_some, Nat.mul_one] at hcut
      obtain ⟨m2, hm2⟩ : ∃ m2, f.length - p = m2 := ⟨_, rfl⟩
      obtain ⟨c2', hc2'⟩ : ∃ c2', c - p = c2' := ⟨_, rfl⟩
      rw [hm2, hc2'] at hcut
      have b4 : decide ((m2 : Int) < 7) = false := decide_eq_false (by omega)
      have z4 : (4 : Int) < (m2 : Int) := by omega
      have z5 : (5 : Int) < (m2 : Int) := by omega
      have z6 : (6 : Int) < (m2 : Int) := by omega
      have y4 : 4 < m2 := by omega
      have y5 : 5 < m2 := by omega
      have y6 : 6 < m2 := by omega
      have HCwr := Kd.C_below HC.out (HWM.out wr HCW.out)
      obtain ⟨ad4, e4, r4⟩ := byte_at HCwr (p + 4) (by omega) HBY.out
      obtain ⟨ad5, e5, r5⟩ := byte_at HCwr (p + 5) (by omega) HBY.out
      obtain ⟨ad6, e6, r6⟩ := byte_at HCwr (p + 6) (by omega) HBY.out
      cases e4; cases e5; cases e6
      have s4 := (rdn_int f (p + 4) HBY.out).2
      have s5 := (rdn_int f (p + 5) HBY.out).2
      have s6 := (rdn_int f (p + 6) HBY.out).2
      have r4' : wr.cell? ((ad.add p).add 4) = some (.int .u8 ((rdn f (p + 4) : Nat) : Int)) := by rw [addr_add2]; exact r4
      have r5' : wr.cell? ((ad.add p).add 5) = some (.int .u8 ((rdn f (p + 5) : Nat) : Int)) := by rw [addr_add2]; exact r5
      have r6' : wr.cell? ((ad.add p).add 6) = some (.int .u8 ((rdn f (p + 6) : Nat) : Int)) := by rw [addr_add2]; exact r6
      obtain ⟨q, hq⟩ : ∃ q, ad.add p = q := ⟨_, rfl⟩
      rw [hq] at hcut r4' r5' r6'
      simp [Addr.add] at r4' r5' r6'
      have HNN := Aside0.mk (show nN f p = rdn f (p + 4) + 256 * rdn f (p + 5) from rfl)
      have hnb : nN f p < 65536 := by have := HNN.out; omega
      obtain ⟨n, hn⟩ : ∃ n, nN f p = n := ⟨_, rfl⟩
      obtain ⟨kd, hkd⟩ : ∃ kd, rdn f (p + 6) = kd := ⟨_, rfl⟩
      obtain ⟨x4, hx4⟩ : ∃ x4, rdn f (p + 4) = x4 := ⟨_, rfl⟩
      obtain ⟨x5, hx5⟩ : ∃ x5, rdn f (p + 5) = x5 := ⟨_, rfl⟩
      have hn3 := HNN.out
      rw [hx4, hx5, hn] at hn3
      rw [hx4] at r4' s4
      rw [hx5] at r5' s5
      rw [hkd] at r6' s6
      rw [hn] at hnb
      rw [hkd] at q5
      rw [hn] at q1 q3
      rw [hn] at Q6
      have HN3 := Aside0.mk hn3
      have HNV := Aside0.mk hn
      have HKV := Aside0.mk hkd
      have HM2 := Aside0.mk hm2
      have HQ := Aside0.mk hq
      have HC2 := Aside0.mk hc2'
      clear hi0 hsz0 hm2 hc2' hx4 hx5 hn hkd hq HNN HCwr r4 r5 r6 hn3
      go_wp2
      go_quiet (fail)
      all_goals go_wp2
      go_quiet (fail)
      all_goals go_wp2
      rw [or_i64 x4 x5 s4 s5, ← HN3.out]
      have b5 : decide ((kd : Int) < 1) = false := decide_eq_false (by omega)
      have b5' : (kd == 0) = false := by simp; omega
      have b6 : decide ((kd : Int) > 4) = false := decide_eq_false (by omega)
      have b6' : decide (4 < kd) = false := decide_eq_false (by omega)
      have b7 : decide ((n : Int) > (blk : Int) - (pm : Int) - 7) = false := decide_eq_false (by omega)
      have b7' : decide ((blk : Int) - (pm : Int) - 7 < (n : Int)) = false := decide_eq_false (by omega)
      have hq2 := HM2.out
      have b8 : decide ((m2 : Int) < 7 + (n : Int)) = false := decide_eq_false (by omega)
      obtain ⟨i2, hi2, _, hsz2, _⟩ := info_parts HI.out
      have hmc : m2 ≤ c2' := by have := HCC.out; have := HC2.out; omega
      have hcutd := cut_mid (P := Tryd.prog) 22 5 .i64 .i64 Tryd.underlying22 hi2 1 hsz2 (some q) m2 c2' 7 (7 + (n : Int)) (by omega) (by omega) (by omega) hmc
      obtain ⟨Ad, hAd⟩ : ∃ Ad, (if c2' = 7 then some q else (some q).map (·.add (7 * 1))) = Ad := ⟨_, rfl⟩
      have hcd2 : n ≤ c2' - 7 := by omega
      have hdt : Kd.C (Kd.int .u8) wf Ad n (dataN f p) := by
        have hd1 := Kd.C_drop HC.out (show p ≤ f.length by omega) HCC.out
        rw [if_neg (show ¬ c = p by have := HCC.out; omega)] at hd1
        rw [show (some ad).map (·.add (p * (Kd.int .u8).sz)) = some q by rw [← HQ.out]; show some (ad.add (p * 1)) = _; rw [Nat.mul_one]] at hd1
        have hd2 := Kd.C_mid (lo := 7) (hi := 7 + n) hd1 (by omega) (by rw [List.length_drop]; omega) (show (f.drop p).length ≤ c2' by rw [List.length_drop]; omega)
        rw [data_cut] at hd2
        have hd3 : ((f.drop (p + 7)).take n).length = n := by rw [List.length_take, List.length_drop]; omega
        rw [hd3] at hd2
        unfold dataN
        rw [HNV.out, ← hAd]
        exact hd2
      have HDT := Aside0.mk hdt
      rw [show ((7 : Int) + (n : Int)).toNat - (7 : Int).toNat = n by omega, show (7 : Int).toNat = 7 from rfl, hAd] at hcutd
      have HBC := Aside0.mk (fun W' (hW : Chg (MY R B0 V) W W') (hr : RdAt W' R blk (some ad) f.length c p (.slice Av d.length cv) o) => bent_calls R blk (some ad) c p f d (.slice Av d.length cv) o Ad (c2' - 7) W' hr (Kd.C_below HC.out (HWM.out W' hW)) HCC.out HBY.out HLEN.out (by rw [HNV.out]; omega) Av cv rfl (by have := HDL.out; have := HLEN.out; omega) (by rw [HNV.out]; exact Kd.C_below HDT.out (HWM.out W' hW)) (by rw [HNV.out]; exact hcd2) (HT.out.below (HWM.out W' hW)))
      rw [HNV.out, HKV.out] at HBC
      clear hi2 hsz2 hAd hdt
      go_quiet (fail)
      all_goals go_wp2_with fail
      (with_reducible refine (HBC.out _ (HCW.out.trans (by repeat (first | exact Chg.refl _ _ | exact Chg.drewN _ _ _ | refine Chg.trans ?_ (Chg.drewN _ _ _)))) (by exact HR.out.drewN _)).mono ?_)
      rintro e w5 ⟨rfl, hb⟩
      have HB5 := Aside0.mk hb
      clear hb
      rw [Q4.out]
      have HR5 := Aside0.mk ((HR.out.drewN _).below HB5.out)
      have HCY5 := Aside0.mk (show Chg M Y w5 from HCY.out.trans (by repeat (first | exact Chg.refl _ _ | exact Chg.drewN _ _ _ | exact Chg.below HB5.out | refine Chg.trans ?_ (Chg.below HB5.out) | refine Chg.trans ?_ (Chg.drewN _ _ _))))
      have HCW5 := Aside0.mk (show Chg (MY R B0 V) W w5 from HCW.out.trans (by repeat (first | exact Chg.refl _ _ | exact Chg.drewN _ _ _ | exact Chg.below HB5.out | refine Chg.trans ?_ (Chg.below HB5.out) | refine Chg.trans ?_ (Chg.drewN _ _ _))))
      have HD5 := Aside0.mk (show Kd.R (Kd.int .u8) 5 w5 Y.heap.size (fun _ => True) (.slice Av d.length cv) d from Kd.R_below (Kd.R_drewN HD.out _) HB5.out)
      have hy := HR5.out.c
      have hy0 := hy.1
      have hy1 := hy.2.1
      have hy2 := hy.2.2.1
      have hy3 := hy.2.2.2.1
      have hy4 := hy.2.2.2.2
      clear hy c0 c1 c2 c3 c4 r4' r5' r6' hcut hcutd
      have h7 : (dataN f p).length ≤ n := by unfold dataN; rw [List.length_take, HNV.out]; exact Nat.min_le_left _ _
      have HDN := Aside0.mk (show (d ++ dataN f p).length ≤ p + 7 + n by rw [List.length_append]; have := HDL.out; omega)
      clear h7
      obtain ⟨d2, hd2⟩ : ∃ d2, d ++ dataN f p = d2 := ⟨_, rfl⟩
      have HDD := Aside0.mk hd2
      rw [hd2] at HDN Q6
      clear hd2
      have e23 : (((kd : Int) == 2) = true ∧ True) ∨ (((kd : Int) == 2) = false ∧ ((kd : Int) == 3) = true) := by
        rcases q5 with h | h
        · exact .inl ⟨by simp; omega, trivial⟩
        · exact .inr ⟨by simp; omega, by simp; omega⟩
      rcases e23 with ⟨e2, _⟩ | ⟨e2, e3⟩
      all_goals
        go_wp2_with (first
          | ((with_reducible refine gate_builtin (b := .append) (xs := #[.tmp 142, .tmp 143]) rfl ?_); at_builtin; refine Kd.R_append_rows (Kd.int .u8) (w0 := w5) Y.heap.size rfl (.tmp 142) (.tmp 143) 22 5 (.int .u8 0) 1 rfl Tryd.underlying22 HI.out rfl (by decide) (by omega) (.slice Av d.length cv) d (dataN f p) Ad n (c2' - 7) (fun _ => True) (fun _ => False) rfl rfl ?aO ?aR (fun _ _ h => h) (fun _ h => h.elim) (fun _ _ => trivial) (Below.refl _ _) ?aS ?aL ?_; (case aO => exact HD5.out); (case aR => exact Kd.C_below HDT.out (HWM.out w5 HCW5.out)); (case aS => exact HCY5.out.size); (case aL => have := HDL.out; have := HLEN.out; omega); intro v6 w6 ho hb hg hat; rw [HDD.out] at ho; have HD6 := Aside0.mk ho; have HR6 := Aside0.mk (show RdAt w6 R blk (some ad) f.length c p (.slice Av d.length cv) o from (hg.block R (blk_lt HR5.out) (Kd.R_ne HD5.out HR5.out (by decide))).trans HR5.out); have HCY6 := Aside0.mk (chg_grown HCY5.out hg (Kd.R_base HD5.out)); have HCW6 := Aside0.mk (HCW5.out.trans (Chg.grown hg (fun k e => .inr (.inr (Nat.le_trans HBY0.out (Kd.R_base HD5.out k e)))))); obtain ⟨A6, c6, rfl⟩ := Kd.R_slice HD6.out; have hx := HR6.out.c; have hx0 := hx.1; have hx1 := hx.2.1; have hx2 := hx.2.2.1; have hx3 := hx.2.2.2.1; have hx4 := hx.2.2.2.2; have hf2 := HR6.out.frozen 2; have hf3 := HR6.out.frozen 3; have hf4 := HR6.out.frozen 4; clear ho hb hg hat hx))
        go_roundg (G - 1)
        case measure => omega
        case rel =>
          have hpe : ((p + 7 + n : Nat) : Int) = (p : Int) + (7 + (n : Int)) := by omega
          have hrf := ((HR6.out.set3 (.slice A6 d2.length c6) rfl).set2 (p + 7 + n)).set4 true
          have hdf := R_rd (R_rd (R_rd HD6.out HR6.out 3 (.slice A6 d2.length c6)) (HR6.out.set3 (.slice A6 d2.length c6) rfl) 2 (.int .i64 ((p + 7 + n : Nat) : Int))) ((HR6.out.set3 (.slice A6 d2.length c6) rfl).set2 (p + 7 + n)) 4 (.bool true)
          rw [hpe] at hrf hdf
          have q1' := HNV.out
          have q6' := Q6.out
          refine ⟨pre, Y, p + 7 + n, d2, .slice A6 d2.length c6, true, outs', by omega, by omega, ⟨hrf⟩, Q6, HOUT, HJY, ⟨((HCY6.out.trans (Chg.set _ _ R 3 _ HMR.out)).trans (Chg.set _ _ R 2 _ HMR.out)).trans (Chg.set _ _ R 4 _ HMR.out)⟩, HBY0, ⟨hdf⟩, HDN, ⟨((HCW6.out.trans (Chg.set _ _ R 3 _ (.inl rfl))).trans (Chg.set _ _ R 2 _ (.inl rfl))).trans (Chg.set _ _ R 4 _ (.inl rfl))⟩⟩
    · -- a record's last piece
      have Q4 := Aside0.mk q4
      have Q6 := Aside0.mk q6
      have Q7 := Aside0.mk q7
      clear q4 q6 q7
      have b3 : decide ((blk : Int) - (pm : Int) < 7) = false := decide_eq_false (by omega)
      obtain ⟨i1, hi0, _, hsz0, _⟩ := info_parts HI.out
      have hcut := cut_from (P := Tryd.prog) 22 5 .i64 Tryd.underlying22 hi0 1 hsz0 (some ad) f.length c (p : Int) (by omega) (by omega)
      rw [Int.toNat_natCast, if_neg (by have := HCC.out; omega)] at hcut
      simp only [Option.map_some, Nat.mul_one] at hcut
      obtain ⟨m2, hm2⟩ : ∃ m2, f.length - p = m2 := ⟨_, rfl⟩
      obtain ⟨c2', hc2'⟩ : ∃ c2', c - p = c2' := ⟨_, rfl⟩
      rw [hm2, hc2'] at hcut
      have b4 : decide ((m2 : Int) < 7) = false := decide_eq_false (by omega)
      have z4 : (4 : Int) < (m2 : Int) := by omega
      have z5 : (5 : Int) < (m2 : Int) := by omega
      have z6 : (6 : Int) < (m2 : Int) := by omega
      have y4 : 4 < m2 := by omega
      have y5 : 5 < m2 := by omega
      have y6 : 6 < m2 := by omega
      have HCwr := Kd.C_below HC.out (HWM.out wr HCW.out)
      obtain ⟨ad4, e4, r4⟩ := byte_at HCwr (p + 4) (by omega) HBY.out
      obtain ⟨ad5, e5, r5⟩ := byte_at HCwr (p + 5) (by omega) HBY.out
      obtain ⟨ad6, e6, r6⟩ := byte_at HCwr (p + 6) (by omega) HBY.out
      cases e4; cases e5; cases e6
      have s4 := (rdn_int f (p + 4) HBY.out).2
      have s5 := (rdn_int f (p + 5) HBY.out).2
      have s6 := (rdn_int f (p + 6) HBY.out).2
      have r4' : wr.cell? ((ad.add p).add 4) = some (.int .u8 ((rdn f (p + 4) : Nat) : Int)) := by rw [addr_add2]; exact r4
      have r5' : wr.cell? ((ad.add p).add 5) = some (.int .u8 ((rdn f (p + 5) : Nat) : Int)) := by rw [addr_add2]; exact r5
      have r6' : wr.cell? ((ad.add p).add 6) = some (.int .u8 ((rdn f (p + 6) : Nat) : Int)) := by rw [addr_add2]; exact r6
      obtain ⟨q, hq⟩ : ∃ q, ad.add p = q := ⟨_, rfl⟩
      rw [hq] at hcut r4' r5' r6'
      simp [Addr.add] at r4' r5' r6'
      have HNN := Aside0.mk (show nN f p = rdn f (p + 4) + 256 * rdn f (p + 5) from rfl)
      have hnb : nN f p < 65536 := by have := HNN.out; omega
      obtain ⟨n, hn⟩ : ∃ n, nN f p = n := ⟨_, rfl⟩
      obtain ⟨kd, hkd⟩ : ∃ kd, rdn f (p + 6) = kd := ⟨_, rfl⟩
      obtain ⟨x4, hx4⟩ : ∃ x4, rdn f (p + 4) = x4 := ⟨_, rfl⟩
      obtain ⟨x5, hx5⟩ : ∃ x5, rdn f (p + 5) = x5 := ⟨_, rfl⟩
      have hn3 := HNN.out
      rw [hx4, hx5, hn] at hn3
      rw [hx4] at r4' s4
      rw [hx5] at r5' s5
      rw [hkd] at r6' s6
      rw [hn] at hnb
      rw [hkd] at q5
      rw [hn] at q1 q3
      rw [hn] at Q6 Q7
      have HN3 := Aside0.mk hn3
      have HNV := Aside0.mk hn
      have HKV := Aside0.mk hkd
      have HM2 := Aside0.mk hm2
      have HQ := Aside0.mk hq
      have HC2 := Aside0.mk hc2'
      clear hi0 hsz0 hm2 hc2' hx4 hx5 hn hkd hq HNN HCwr r4 r5 r6 hn3
      go_wp2
      go_quiet (fail)
      all_goals go_wp2
      go_quiet (fail)
      all_goals go_wp2
      rw [or_i64 x4 x5 s4 s5, ← HN3.out]
      have b5 : decide ((kd : Int) < 1) = false := decide_eq_false (by omega)
      have b5' : (kd == 0) = false := by simp; omega
      have b6 : decide ((kd : Int) > 4) = false := decide_eq_false (by omega)
      have b6' : decide (4 < kd) = false := decide_eq_false (by omega)
      have b7 : decide ((n : Int) > (blk : Int) - (pm : Int) - 7) = false := decide_eq_false (by omega)
      have b7' : decide ((blk : Int) - (pm : Int) - 7 < (n : Int)) = false := decide_eq_false (by omega)
      have hq2 := HM2.out
      have b8 : decide ((m2 : Int) < 7 + (n : Int)) = false := decide_eq_false (by omega)
      obtain ⟨i2, hi2, _, hsz2, _⟩ := info_parts HI.out
      have hmc : m2 ≤ c2' := by have := HCC.out; have := HC2.out; omega
      have hcutd := cut_mid (P := Tryd.prog) 22 5 .i64 .i64 Tryd.underlying22 hi2 1 hsz2 (some q) m2 c2' 7 (7 + (n : Int)) (by omega) (by omega) (by omega) hmc
      obtain ⟨Ad, hAd⟩ : ∃ Ad, (if c2' = 7 then some q else (some q).map (·.add (7 * 1))) = Ad := ⟨_, rfl⟩
      have hcd2 : n ≤ c2' - 7 := by omega
      have hdt : Kd.C (Kd.int .u8) wf Ad n (dataN f p) := by
        have hd1 := Kd.C_drop HC.out (show p ≤ f.length by omega) HCC.out
        rw [if_neg (show ¬ c = p by have := HCC.out; omega)] at hd1
        rw [show (some ad).map (·.add (p * (Kd.int .u8).sz)) = some q by rw [← HQ.out]; show some (ad.add (p * 1)) = _; rw [Nat.mul_one]] at hd1
        have hd2 := Kd.C_mid (lo := 7) (hi := 7 + n) hd1 (by omega) (by rw [List.length_drop]; omega) (show (f.drop p).length ≤ c2' by rw [List.length_drop]; omega)
        rw [data_cut] at hd2
        have hd3 : ((f.drop (p + 7)).take n).length = n := by rw [List.length_take, List.length_drop]; omega
        rw [hd3] at hd2
        unfold dataN
        rw [HNV.out, ← hAd]
        exact hd2
      have HDT := Aside0.mk hdt
      rw [show ((7 : Int) + (n : Int)).toNat - (7 : Int).toNat = n by omega, show (7 : Int).toNat = 7 from rfl, hAd] at hcutd
      have HBC := Aside0.mk (fun W' (hW : Chg (MY R B0 V) W W') (hr : RdAt W' R blk (some ad) f.length c p (.slice Av d.length cv) o) => bent_calls R blk (some ad) c p f d (.slice Av d.length cv) o Ad (c2' - 7) W' hr (Kd.C_below HC.out (HWM.out W' hW)) HCC.out HBY.out HLEN.out (by rw [HNV.out]; omega) Av cv rfl (by have := HDL.out; have := HLEN.out; omega) (by rw [HNV.out]; exact Kd.C_below HDT.out (HWM.out W' hW)) (by rw [HNV.out]; exact hcd2) (HT.out.below (HWM.out W' hW)))
      rw [HNV.out, HKV.out] at HBC
      clear hi2 hsz2 hAd hdt
      go_quiet (fail)
      all_goals go_wp2_with fail
      (with_reducible refine (HBC.out _ (HCW.out.trans (by repeat (first | exact Chg.refl _ _ | exact Chg.drewN _ _ _ | refine Chg.trans ?_ (Chg.drewN _ _ _)))) (by exact HR.out.drewN _)).mono ?_)
      rintro e w5 ⟨rfl, hb⟩
      have HB5 := Aside0.mk hb
      clear hb
      rw [Q4.out]
      have HR5 := Aside0.mk ((HR.out.drewN _).below HB5.out)
      have HCY5 := Aside0.mk (show Chg M Y w5 from HCY.out.trans (by repeat (first | exact Chg.refl _ _ | exact Chg.drewN _ _ _ | exact Chg.below HB5.out | refine Chg.trans ?_ (Chg.below HB5.out) | refine Chg.trans ?_ (Chg.drewN _ _ _))))
      have HCW5 := Aside0.mk (show Chg (MY R B0 V) W w5 from HCW.out.trans (by repeat (first | exact Chg.refl _ _ | exact Chg.drewN _ _ _ | exact Chg.below HB5.out | refine Chg.trans ?_ (Chg.below HB5.out) | refine Chg.trans ?_ (Chg.drewN _ _ _))))
      have HD5 := Aside0.mk (show Kd.R (Kd.int .u8) 5 w5 Y.heap.size (fun _ => True) (.slice Av d.length cv) d from Kd.R_below (Kd.R_drewN HD.out _) HB5.out)
      have hy := HR5.out.c
      have hy0 := hy.1
      have hy1 := hy.2.1
      have hy2 := hy.2.2.1
      have hy3 := hy.2.2.2.1
      have hy4 := hy.2.2.2.2
      clear hy c0 c1 c2 c3 c4 r4' r5' r6' hcut hcutd
      have h7 : (dataN f p).length ≤ n := by unfold dataN; rw [List.length_take, HNV.out]; exact Nat.min_le_left _ _
      have HDN := Aside0.mk (show (d ++ dataN f p).length ≤ p + 7 + n by rw [List.length_append]; have := HDL.out; omega)
      clear h7
      obtain ⟨d2, hd2⟩ : ∃ d2, d ++ dataN f p = d2 := ⟨_, rfl⟩
      have HDD := Aside0.mk hd2
      rw [hd2] at HDN Q6
      clear hd2
      have e2 : ((kd : Int) == 2) = false := by simp; omega
      have e3 : ((kd : Int) == 3) = false := by simp; omega
      go_upto_region 28 with (first
        | ((with_reducible refine gate_builtin (b := .append) (xs := #[.tmp 142, .tmp 143]) rfl ?_); at_builtin; refine Kd.R_append_rows (Kd.int .u8) (w0 := w5) Y.heap.size rfl (.tmp 142) (.tmp 143) 22 5 (.int .u8 0) 1 rfl Tryd.underlying22 HI.out rfl (by decide) (by omega) (.slice Av d.length cv) d (dataN f p) Ad n (c2' - 7) (fun _ => True) (fun _ => False) rfl rfl ?aO ?aR (fun _ _ h => h) (fun _ h => h.elim) (fun _ _ => trivial) (Below.refl _ _) ?aS ?aL ?_; (case aO => exact HD5.out); (case aR => exact Kd.C_below HDT.out (HWM.out w5 HCW5.out)); (case aS => exact HCY5.out.size); (case aL => have := HDL.out; have := HLEN.out; omega); intro v6 w6 ho hb hg hat; rw [HDD.out] at ho; have HD6 := Aside0.mk ho; have HR6 := Aside0.mk (show RdAt w6 R blk (some ad) f.length c p (.slice Av d.length cv) o from (hg.block R (blk_lt HR5.out) (Kd.R_ne HD5.out HR5.out (by decide))).trans HR5.out); have HCY6 := Aside0.mk (chg_grown HCY5.out hg (Kd.R_base HD5.out)); have HCW6 := Aside0.mk (HCW5.out.trans (Chg.grown hg (fun k e => .inr (.inr (Nat.le_trans HBY0.out (Kd.R_base HD5.out k e)))))); obtain ⟨A6, c6, rfl⟩ := Kd.R_slice HD6.out; have hx := HR6.out.c; have hx0 := hx.1; have hx1 := hx.2.1; have hx2 := hx.2.2.1; have hx3 := hx.2.2.2.1; have hx4 := hx.2.2.2.2; have hf2 := HR6.out.frozen 2; have hf3 := HR6.out.frozen 3; have hf4 := HR6.out.frozen 4; clear ho hb hg hat hx))
      have hpe : ((p + 7 + n : Nat) : Int) = (p : Int) + (7 + (n : Int)) := by omega
      have hrf := (((HR6.out.set3 (.slice A6 d2.length c6) rfl).set2 (p + 7 + n)).set4 false).set3 (.slice none 0 0) rfl
      have hdf := R_rd (R_rd (R_rd (R_rd HD6.out HR6.out 3 (.slice A6 d2.length c6)) (HR6.out.set3 (.slice A6 d2.length c6) rfl) 2 (.int .i64 ((p + 7 + n : Nat) : Int))) ((HR6.out.set3 (.slice A6 d2.length c6) rfl).set2 (p + 7 + n)) 4 (.bool false)) (((HR6.out.set3 (.slice A6 d2.length c6) rfl).set2 (p + 7 + n)).set4 false) 3 (.slice none 0 0)
      have hcy := (((HCY6.out.trans (Chg.set _ _ R 3 (.slice A6 d2.length c6) HMR.out)).trans (Chg.set _ _ R 2 (.int .i64 ((p + 7 + n : Nat) : Int)) HMR.out)).trans (Chg.set _ _ R 4 (.bool false) HMR.out)).trans (Chg.set _ _ R 3 (.slice none 0 0) HMR.out)
      have hcw := (((HCW6.out.trans (Chg.set _ _ R 3 (.slice A6 d2.length c6) (.inl rfl))).trans (Chg.set _ _ R 2 (.int .i64 ((p + 7 + n : Nat) : Int)) (.inl rfl))).trans (Chg.set _ _ R 4 (.bool false) (.inl rfl))).trans (Chg.set _ _ R 3 (.slice none 0 0) (.inl rfl))
      rw [← hpe]
      clear hx0 hx1 hx2 hx3 hx4 hf2 hf3 hf4 hpe hy0 hy1 hy2 hy3 hy4
      generalize ((((w6.setCell ⟨R, 3, none⟩ (.slice A6 d2.length c6)).setCell ⟨R, 2, none⟩ (.int .i64 ((p + 7 + n : Nat) : Int))).setCell ⟨R, 4, none⟩ (.bool false)).setCell ⟨R, 3, none⟩ (.slice none 0 0)) = X at *
      obtain ⟨p2, hp2⟩ : ∃ p2, p + 7 + n = p2 := ⟨_, rfl⟩
      have hp2l : p2 ≤ f.length := by have := HNV.out; omega
      have hp2m : f.length ≤ p2 + (G - 1) := by omega
      have HP2 := Aside0.mk hp2
      rw [hp2] at hrf Q6 Q7
      have HRX := Aside0.mk hrf
      have HDX := Aside0.mk hdf
      have HCYX := Aside0.mk hcy
      have HCWX := Aside0.mk hcw
      have hxc := hrf.c.2.2.1
      obtain ⟨fn, tmps, asg, bdy, hy, hR2⟩ := HY.out pre (p2, d2, .slice A6 d2.length c6, Y.heap.size) X (HJ.out _ _ _ HJY.out hcy) ⟨Y, HJY.out, Nat.le_refl _⟩ (Nat.le_trans HBY0.out hcy.size) hdf ⟨l', by rw [List.map_append, List.append_assoc, ← HOUT.out, Q6.out]; rfl⟩
      have hy' : (Instr.yield l #[.int .i64 (p2 : Int), .slice A6 d2.length c6]).run Tryd.prog X = .ok (.round l fn tmps asg bdy) X := hy
      clear hrf hdf hcy hcw hp2 hy q1 q3 hpl b1 b2 b3 b4 b5 b5' b6 b6' b7 b7' b8
      refine (wpIn_wide (n := m + 1)).1 ?_
      gi_wp2
      refine hR2.mono ?_
      rintro e X2 (⟨rfl, hJ2, hc2⟩ | ⟨rfl, hJx, hc2⟩)
      · have HJ2 := Aside0.mk hJ2
        have HC2' := Aside0.mk (HCWX.out.trans (hc2.mono (fun k _ hk => hk.elim (fun h => .inr (.inl h)) (fun h => .inr (.inr h)))))
        have HRX2 := Aside0.mk (HRX.out.chg hc2 (fun hk => hk.elim (fun h => (HV.out R h).2 rfl) (fun h => by have := HRB.out; omega)))
        have HSZ2 := Aside0.mk (Nat.le_trans (Nat.le_trans HBY0.out HCYX.out.size) hc2.size)
        clear hJ2 hc2 hR2
        gi_wp2
        go_wp2
        go_roundg (G - 1)
        case measure => omega
        case rel => exact ⟨pre ++ [(p2, d2, .slice A6 d2.length c6, Y.heap.size)], X2, p2, [], .slice none 0 0, false, l', by omega, hp2m, HRX2, Q7, ⟨by rw [List.map_append, List.append_assoc, ← HOUT.out, Q6.out]; rfl⟩, HJ2, ⟨Chg.refl _ _⟩, HSZ2, ⟨Kd.R_nil _ _ _ _ _⟩, ⟨by simp⟩, HC2'⟩
      · have HJ2 := Aside0.mk hJx
        have HC2' := Aside0.mk (HCWX.out.trans (hc2.mono (fun k _ hk => hk.elim (fun h => .inr (.inl h)) (fun h => .inr (.inr h)))))
        clear hJx hc2 hR2
        gi_wp2
        go_wp2
        rw [Exit.noGoto_ret]
        go_ret
        exact ⟨HC2'.out, .inr ⟨pre ++ [(p2, d2, .slice A6 d2.length c6, Y.heap.size)], rfl, ⟨l', by rw [List.map_append, List.append_assoc, ← HOUT.out, Q6.out]; rfl⟩, HJ2.out⟩⟩

end Go.Proofs.YtmpkigambfghgaaDoor.G

/- Printed by the session's program over the kit's print, out of the translation: functions as plain Lean functions, and the proofs that the calls come to them. -/
namespace Go.Proofs.YtmpkigambfghgaaDoor.G
open Go.RowKit Go.Proofs.YtmpkigambfghgaaDoorW.PrintWords Go.Proofs.YtmpkigambfghgaaDoorW.PrintLast Go.Proofs.YtmpkigambfghgaaDoorW.PrintMore
attribute [local go_sem] max2_int min2_int max_two min_two max_three min_three max_four min_four   -- for this text's walks alone
set_option linter.unusedVariables false
set_option linter.unusedSimpArgs false

/-! ### journal_isBlock: function 31 -/
def journal_isBlock.f (a0 : Int) : Option (Bool) := if a0 ≥ 32 then (some (decide (a0 ≤ 32768))) else (some false)
set_option maxHeartbeats 8000000 in
set_option maxRecDepth 100000 in
theorem journal_isBlock.calls (a0 : Int) (r : Bool) (w : World) (h : journal_isBlock.f a0 = some r) :
    Calls Tryd.prog 31 #[.int .i64 a0] w fun e w' => e = .returned (.bool r) ∧ Drawn0 w w' := by
  have H : (if a0 ≥ 32 then (some (decide (a0 ≤ 32768))) else (some false)) = some r := h
  clear h
  by_cases c2 : a0 ≥ 32
  · rw [if_pos c2] at H
    have c2b0 : decide (32 ≤ a0) = true := decide_eq_true c2
    clear c2
    obtain rfl := Option.some.inj H
    go_enter Tryd.func31, Tryd.ntmps31
    go_wp2
    go_ret
    exact ⟨by first | rfl | (simp; done) | (simp [*]; done), by repeat (first | exact Drawn0.refl _ | apply Drawn0.step)⟩
  · rw [if_neg c2] at H
    have c2b0 : decide (32 ≤ a0) = false := decide_eq_false c2
    clear c2
    obtain rfl := Option.some.inj H
    go_enter Tryd.func31, Tryd.ntmps31
    go_wp2
    go_ret
    exact ⟨by first | rfl | (simp; done) | (simp [*]; done), by repeat (first | exact Drawn0.refl _ | apply Drawn0.step)⟩

end Go.Proofs.YtmpkigambfghgaaDoor.G

/- Contracts typed by hand: journal: NewWriter, Size, Cost by hand; the law's file of records -/
namespace Go.Proofs.YtmpkigambfghgaaDoor.G
open Go.RowKit Go.Proofs.YtmpkigambfghgaaDoorW.PrintWords Go.Proofs.YtmpkigambfghgaaDoorW.PrintLast Go.Proofs.YtmpkigambfghgaaDoorW.PrintMore
attribute [local go_sem] max2_int min2_int max_two min_two max_three min_three max_four min_four
set_option linter.unusedVariables false
set_option linter.unusedSimpArgs false

/-! journal: NewWriter, Size, Cost by hand; the law's file of records -/
def hdK : Kd (Option Addr × Nat × Nat) := Kd.scalar (fun x => Value.slice x.1 x.2.1 x.2.2) (fun _ => rfl)
def hdr (hs : List (Option Addr × Nat × Nat)) (i : Nat) : Option Addr × Nat × Nat := hs.getD i (none, 0, 0)
def rec (rs : List (List Int)) (i : Nat) : List Int := rs.getD i []
/-- headers of records that can be read -/
def Heads (w : World) (rs : List (List Int)) (hs : List (Option Addr × Nat × Nat)) : Prop :=
  hs.length = rs.length ∧ ∀ i, i < rs.length → (hdr hs i).2.1 = (rec rs i).length ∧ (rec rs i).length ≤ (hdr hs i).2.2 ∧ Kd.C (Kd.int .u8) w (hdr hs i).1 (rec rs i).length (rec rs i)
theorem Heads.below {w w1 : World} {rs hs} (h : Heads w rs hs) (hb : Below w.heap.size w w1) : Heads w1 rs hs := ⟨h.1, fun i hi => ⟨(h.2 i hi).1, (h.2 i hi).2.1, Kd.C_below (h.2 i hi).2.2 hb⟩⟩
theorem rec_get {rs : List (List Int)} {i : Nat} (h : i < rs.length) : rs[i]? = some (rec rs i) := by unfold rec; rw [List.getD_eq_getElem?_getD, List.getElem?_eq_getElem h]; rfl
theorem hdr_get {hs : List (Option Addr × Nat × Nat)} {i : Nat} (h : i < hs.length) : hs[i]? = some (hdr hs i) := by unfold hdr; rw [List.getD_eq_getElem?_getD, List.getElem?_eq_getElem h]; rfl
theorem heads_of {w : World} {A : Option Addr} {rs : List (List Int)} {e : Nat} (h : Kd.C (Kd.slice e (Kd.int .u8)) w A rs.length rs) : ∃ hs, Heads w rs hs ∧ hdK.C w A rs.length hs := by
  have key : ∀ i, ∃ x : Option Addr × Nat × Nat, i < rs.length → (∃ ad, A = some ad ∧ w.cell? (ad.add i) = some (.slice x.1 x.2.1 x.2.2)) ∧ x.2.1 = (rec rs i).length ∧ (rec rs i).length ≤ x.2.2 ∧ Kd.C (Kd.int .u8) w x.1 (rec rs i).length (rec rs i) := by
    intro i
    by_cases hi : i < rs.length
    · obtain ⟨ad, hA, hc⟩ := h.2.2 (by omega)
      obtain ⟨c, hl, ⟨B, d, hcs, hd, hC⟩, hcell⟩ := hc i _ (rec_get hi)
      subst hcs
      refine ⟨(B, (rec rs i).length, d), fun _ => ⟨⟨ad, hA, ?_⟩, rfl, hd, hC⟩⟩
      have h3 := hcell 0 _ rfl
      have e3 : i * (Kd.slice e (Kd.int .u8)).sz + 0 = i := by show i * 1 + 0 = i; omega
      rw [e3] at h3
      exact h3
    · exact ⟨(none, 0, 0), fun h' => absurd h' hi⟩
  have hf := Classical.axiomOfChoice key
  obtain ⟨f, hf⟩ := hf
  have hget : ∀ i, i < rs.length → hdr ((List.range rs.length).map f) i = f i := by
    intro i hi
    unfold hdr
    rw [List.getD_eq_getElem?_getD, List.getElem?_map, List.getElem?_range hi]
    rfl
  refine ⟨(List.range rs.length).map f, ⟨by simp, fun i hi => ?_⟩, by simp, h.2.1, fun hn => ?_⟩
  · rw [hget i hi]
    exact (hf i hi).2
  · obtain ⟨ad, hA, _⟩ := h.2.2 hn
    refine ⟨ad, hA, fun i p hp => ?_⟩
    have hi : i < rs.length := by have := (List.getElem?_eq_some_iff.1 hp).1; simpa using this
    have hp2 : p = f i := by
      rw [List.getElem?_map, List.getElem?_range hi] at hp
      exact (Option.some.inj hp).symm
    subst hp2
    refine ⟨[.slice (f i).1 (f i).2.1 (f i).2.2], rfl, rfl, fun j u hu => ?_⟩
    obtain ⟨ad2, hA2, hc2⟩ := (hf i hi).1
    have had : ad2 = ad := Option.some.inj (hA2.symm.trans hA)
    subst had
    cases j with
    | zero =>
      have hu2 : Value.slice (f i).1 (f i).2.1 (f i).2.2 = u := by simpa using hu
      rw [← hu2]
      show w.cell? (ad2.add (i * 1 + 0)) = _
      rw [Nat.mul_one, Nat.add_zero]
      exact hc2
    | succ j => simp at hu
theorem hd_at {w : World} {A : Option Addr} {n : Nat} {hs : List (Option Addr × Nat × Nat)} (h : hdK.C w A n hs) (i : Nat) (hi : i < n) : ∃ ad, A = some ad ∧ w.cell? (ad.add i) = some (.slice (hdr hs i).1 (hdr hs i).2.1 (hdr hs i).2.2) := by
  obtain ⟨ad, hA, hc⟩ := h.2.2 (by omega)
  obtain ⟨c, hl, hK, hcell⟩ := hc i _ (hdr_get (by have := h.1; omega))
  have hK2 : c = [.slice (hdr hs i).1 (hdr hs i).2.1 (hdr hs i).2.2] := hK
  subst hK2
  refine ⟨ad, hA, ?_⟩
  have h3 := hcell 0 _ rfl
  have e3 : i * hdK.sz + 0 = i := by show i * 1 + 0 = i; omega
  rw [e3] at h3
  exact h3
/-! the file -/
def fileOf (blk : Nat) (rs : List (List Int)) : List Int := rs.foldl (fun f r => f ++ addR blk (f.length % blk) r) []
theorem fileOf_snoc (blk : Nat) (rs : List (List Int)) (r : List Int) : fileOf blk (rs ++ [r]) = fileOf blk rs ++ addR blk ((fileOf blk rs).length % blk) r := by unfold fileOf; rw [List.foldl_append]; rfl
def endsOf (blk : Nat) (rs : List (List Int)) : List Int := (List.range rs.length).map fun i => ((fileOf blk (rs.take (i + 1))).length : Int)
theorem take_snoc {rs : List (List Int)} {k : Nat} (h : k < rs.length) : rs.take (k + 1) = rs.take k ++ [rec rs k] := by
  rw [List.take_add_one, rec_get h]; rfl
theorem takeh_snoc {hs : List (Option Addr × Nat × Nat)} {k : Nat} (h : k < hs.length) : hs.take (k + 1) = hs.take k ++ [hdr hs k] := by
  rw [List.take_add_one, hdr_get h]; rfl
theorem endsOf_snoc (blk : Nat) (rs : List (List Int)) (k : Nat) (h : k < rs.length) : endsOf blk (rs.take (k + 1)) = endsOf blk (rs.take k) ++ [((fileOf blk (rs.take (k + 1))).length : Int)] := by
  unfold endsOf
  have h1 : (rs.take (k + 1)).length = k + 1 := by rw [List.length_take]; omega
  have h2 : (rs.take k).length = k := by rw [List.length_take]; omega
  rw [h1, h2, List.range_succ, List.map_append]
  congr 1
  · apply List.map_congr_left
    intro i hi
    have hi := List.mem_range.1 hi
    rw [List.take_take, List.take_take, show min (i + 1) (k + 1) = i + 1 by omega, show min (i + 1) k = i + 1 by omega]
  · simp [List.take_take]
/-- how many bytes records have, each with one more -/
def bulk (rs : List (List Int)) : Nat := (rs.map fun r => r.length + 1).sum
theorem bulk_append (a b : List (List Int)) : bulk (a ++ b) = bulk a + bulk b := by simp [bulk]
theorem bulk_take (rs : List (List Int)) (k : Nat) : bulk (rs.take k) ≤ bulk rs := by
  have := bulk_append (rs.take k) (rs.drop k)
  rw [List.take_append_drop] at this
  omega
theorem bulk_rec {rs : List (List Int)} {k : Nat} (h : k < rs.length) : (rec rs k).length + 1 ≤ bulk rs := by
  have h1 := bulk_take rs (k + 1)
  rw [take_snoc h, bulk_append] at h1
  have : bulk [rec rs k] = (rec rs k).length + 1 := by simp [bulk]
  omega
theorem bulk_len (rs : List (List Int)) : rs.length ≤ bulk rs := by
  induction rs with
  | nil => simp [bulk]
  | cons r rs ih => have := bulk_append [r] rs; have h1 : bulk [r] = r.length + 1 := by simp [bulk]
                    simp only [List.cons_append, List.nil_append] at this; simp; omega
theorem fileOf_len (blk : Nat) (h : 32 ≤ blk) (rs : List (List Int)) (k : Nat) (hk : k ≤ rs.length) : (fileOf blk (rs.take k)).length ≤ 23 * bulk (rs.take k) := by
  induction k with
  | zero => simp [fileOf, bulk]
  | succ k ih =>
    have ih := ih (by omega)
    rw [take_snoc (by omega), fileOf_snoc, bulk_append, List.length_append, addR_len]
    have h1 := costR_le blk h ((fileOf blk (rs.take k)).length % blk) (rec rs k).length
    have h2 : bulk [rec rs k] = (rec rs k).length + 1 := by simp [bulk]
    omega
theorem cost_ge (blk : Nat) (h : 32 ≤ blk) : ∀ (k p n : Nat), Enough blk k p n → 7 + n ≤ costJ blk k p n
  | 0, p, n, he => by unfold Enough at he; split at he <;> omega
  | k + 1, p, n, he => by
    unfold costJ
    split
    · omega
    · rename_i hn
      have := cost_ge blk h k 0 (n - mostJ blk p) (he.next h hn)
      omega
theorem costR_ge (blk : Nat) (h : 32 ≤ blk) (p n : Nat) : 7 + n ≤ costR blk p n := cost_ge blk h _ _ _ (enough_self _ _ _)
theorem addR_byt (blk p : Nat) {r : List Int} (h : Byt r) : Byt (addR blk p r) := add_byt _ _ _ _ _ h
theorem fileOf_byt (blk : Nat) (rs : List (List Int)) (h : ∀ r ∈ rs, Byt r) : Byt (fileOf blk rs) := by
  have key : ∀ (rs : List (List Int)) (f : List Int), Byt f → (∀ r ∈ rs, Byt r) → Byt (rs.foldl (fun f r => f ++ addR blk (f.length % blk) r) f) := by
    intro rs
    induction rs with
    | nil => intro f hf _; exact hf
    | cons r rs ih => intro f hf hr; exact ih _ (hf.append (addR_byt _ _ (hr r List.mem_cons_self))) (fun x hx => hr x (List.mem_cons_of_mem _ hx))
  exact key rs [] Byt.nil h
/-! the walks -/
theorem wr_size (g : Nat) (blk size : Int) (hb : blk ≠ 0) (w : World) (h : WrAt w g blk size) :
    Calls Tryd.prog 11 #[.pointer (some ⟨g, 0, none⟩)] w fun e w' => e = .returned (.int .i64 size) ∧ w = w' := by
  have H := Aside0.mk h
  have h1 := h.cells.2.1
  clear h
  go_enter Tryd.func11, Tryd.ntmps11
  go_wp2_with fail
  (with_reducible refine (wr_none g _ _ hb _ H.out).mono ?_)
  rintro e w1 ⟨rfl, rfl⟩
  go_wp2
  go_ret
  exact ⟨rfl, rfl⟩
set_option maxHeartbeats 4000000 in
set_option maxRecDepth 100000 in
theorem wr_cost (g blk : Nat) (size n : Nat) (w : World) (h1 : 32 ≤ blk) (h2 : blk ≤ 32768) (hs : size ≤ 4611686018427387904 + 1099511627776) (h : WrAt w g (blk : Int) (size : Int)) (hn : n ≤ 2097152) :
    Calls Tryd.prog 12 #[.pointer (some ⟨g, 0, none⟩), .int .i64 (n : Int)] w fun e w' => e = .returned (.int .i64 ((costR blk (size % blk) n : Nat) : Int)) ∧ Below w.heap.size w w' := by
  have H := Aside0.mk h
  have HLEN := Aside0.mk (costR_le blk h1 (size % blk) n)
  obtain ⟨L, hL⟩ : ∃ L, costR blk (size % blk) n = L := ⟨_, rfl⟩
  have HLL := Aside0.mk hL
  rw [hL] at HLEN ⊢
  have hs0 := h.cells.1
  have hs1 := h.cells.2.1
  have hc0 : decide ((n : Int) < 0) = false := decide_eq_false (by omega)
  have hc1 : decide ((n : Int) > 2097152) = false := decide_eq_false (by omega)
  have hc2 : decide (2097152 < n) = false := decide_eq_false (by omega)
  have hmod : (size : Int) % (blk : Int) = ((size % blk : Nat) : Int) := by omega
  have hblk0 : ((blk : Int) == 0) = false := by simp; omega
  have hN := Aside0.mk hn
  clear h hL
  go_enter Tryd.func12, Tryd.ntmps12
  go_wp2_with fail
  (with_reducible refine (wr_none g _ _ (by omega) _ H.out).mono ?_)
  rintro e w1 ⟨rfl, rfl⟩
  go_wp2_with fail
  go_quiet (fail)
  all_goals go_wp2
  go_loopg [1, 5, 6] (n + 2) (fun kq v1 v5 v6 wr => ∃ (n' s p : Nat), v1 = .int .i64 (n' : Int) ∧ v5 = .int .i64 (s : Int) ∧ v6 = .int .i64 (p : Int) ∧ p < blk ∧ n' ≤ 2097152 ∧ s ≤ 5000000 ∧ Aside0 (Enough blk kq p n') ∧ Aside0 (s + costJ blk kq p n' = L) ∧ Aside0 (Below w.heap.size w wr))
  case atStart => exact ⟨n, 0, size % blk, rfl, rfl, by rw [hmod], Nat.mod_lt _ (by omega), hn, by omega, ⟨enough_self _ _ _⟩, ⟨by rw [Nat.zero_add]; exact HLL.out⟩, ⟨pw_below_drewN (Below.refl _ _) _⟩⟩
  case round =>
    clear hs0 hs1 hc0 hc1 hc2 hmod
    obtain ⟨n', s, p, rfl, rfl, rfl, hp, hrl, hsl, HE, HOUT, HB⟩ := hrel
    clear hn
    cases gk with
    | zero => exact absurd HE.out (by unfold Enough; split <;> omega)
    | succ k =>
      have hpm := pad_most h1 p
      obtain ⟨pad, hpad⟩ : ∃ pad, padJ blk p = pad := ⟨_, rfl⟩
      obtain ⟨most, hmost⟩ : ∃ most, mostJ blk p = most := ⟨_, rfl⟩
      have HROOM := Aside0.mk (wr_room g blk p size hp h1 h2 wr (H.out.below HB.out))
      have HMD := Aside0.mk (mod_next blk p hp h1)
      rw [hpad, hmost] at hpm HROOM HMD
      have hout := HOUT.out
      unfold costJ at hout
      rw [hpad, hmost] at hout
      have HNXT := Aside0.mk (fun h3 => hmost ▸ HE.out.next h1 (hmost ▸ h3) : ¬ n' ≤ most → Enough blk k 0 (n' - most))
      have hpad6 := hpm.1
      have hmostb := hpm.2.2
      clear hpad hmost hpm HOUT
      have hsb : s + pad + 7 + most ≤ 5000000 + 40000 := by omega
      by_cases hlast : n' ≤ most
      · rw [if_pos hlast] at hout
        have HOUT := Aside0.mk hout
        have hmn1 : (if (n' : Int) < (most : Int) then (n' : Int) else (most : Int)) = (n' : Int) := by split <;> omega
        have hmn2 : (if n' < most then (n' : Int) else (most : Int)) = (n' : Int) := by split <;> omega
        clear hout
        go_wp2_with fail
        (with_reducible refine HROOM.out.mono ?_)
        rintro e w2 ⟨rfl, hd⟩
        have HB2 := Aside0.mk (below_step HB.out hd.below)
        clear hd
        go_wp2
        go_ret
        exact ⟨by rw [← HOUT.out]; simp, HB2.out⟩
      · rw [if_neg hlast] at hout
        have HOUT := Aside0.mk hout
        have hle := HLEN.out
        have hne1 : ((most : Int) == (n' : Int)) = false := by simp; omega
        have hne2 : (most == n') = false := by simp; omega
        have hmn1 : (if (n' : Int) < (most : Int) then (n' : Int) else (most : Int)) = (most : Int) := by split <;> omega
        have hmn2 : (if n' < most then (n' : Int) else (most : Int)) = (most : Int) := by split <;> omega
        have hs2 : s + pad + 7 + most ≤ 5000000 := by have := hN.out; omega
        have hmd : ((p : Int) + (pad : Int) + 7 + (most : Int)) % (blk : Int) = ((0 : Nat) : Int) := by rw [show (p : Int) + (pad : Int) + 7 + (most : Int) = ((p + pad + 7 + most : Nat) : Int) by omega, ← Int.natCast_emod, HMD.out]
        clear hout hle
        go_wp2_with fail
        (with_reducible refine HROOM.out.mono ?_)
        rintro e w2 ⟨rfl, hd⟩
        have HB2 := Aside0.mk (below_step HB.out hd.below)
        have hx0 := (H.out.below HB2.out).cells.1
        clear hd
        go_wp2
        go_roundg k
        case measure => omega
        case rel => exact ⟨n' - most, s + (pad + 7 + most), 0, by rw [show ((n' - most : Nat) : Int) = (n' : Int) - (most : Int) by omega], by rw [show ((s + (pad + 7 + most) : Nat) : Int) = (s : Int) + ((pad : Int) + 7 + (most : Int)) by omega], by rw [hmd], by omega, by omega, by omega, ⟨HNXT.out hlast⟩, ⟨by have := HOUT.out; omega⟩, HB2⟩
theorem new_writer (blk : Nat) (size : Int) (w : World) (h1 : 32 ≤ blk) (h2 : blk ≤ 32768) (hs0 : 0 ≤ size) :
    Calls Tryd.prog 13 #[.int .i64 (blk : Int), .int .i64 size] w fun e w' => ∃ g, e = .returned (.tuple #[.pointer (some ⟨g, 0, none⟩), .int .i64 0]) ∧ WrAt w' g (blk : Int) size ∧ w.heap.size ≤ g ∧ Below w.heap.size w w' := by
  have HI := Aside0.mk (journal_isBlock.calls (blk : Int) true w (by unfold journal_isBlock.f; rw [if_pos (by omega)]; simp; omega))
  have hc : decide (size < 0) = false := decide_eq_false (by omega)
  go_enter Tryd.func13, Tryd.ntmps13
  go_wp2_with fail
  (with_reducible refine HI.out.mono ?_)
  rintro e w1 ⟨rfl, hd⟩
  have HB := Aside0.mk hd.below
  clear hd
  go_wp2
  go_ret2
  exact ⟨w1.heap.size, rfl, World.alloc_heap_new w1 _, HB.out.size, below_alloc HB.out _⟩

end Go.Proofs.YtmpkigambfghgaaDoor.G

/- Contracts typed by hand: journal: the law's function written -/
namespace Go.Proofs.YtmpkigambfghgaaDoor.G
open Go.RowKit Go.Proofs.YtmpkigambfghgaaDoorW.PrintWords Go.Proofs.YtmpkigambfghgaaDoorW.PrintLast Go.Proofs.YtmpkigambfghgaaDoorW.PrintMore
attribute [local go_sem] max2_int min2_int max_two min_two max_three min_three max_four min_four
set_option linter.unusedVariables false
set_option linter.unusedSimpArgs false

/-! journal: the law's function written -/
theorem wr_grown {W w1 : World} {g : Nat} {blk s : Int} {α : Type} {d : Kd α} {e b : Nat} {ok : Nat → Prop} {v : Value} {xs : List α} (h : WrAt W g blk s) (hv : d.R e W b ok v xs) (ht : e ≠ 25) (hg : W.grownBy w1 v.ownBlock) : WrAt w1 g blk s :=
  (hg.block g (blk_lt h) (Kd.R_ne hv h ht)).trans h
theorem wr_set {W : World} {g : Nat} {blk s : Int} {α : Type} {d : Kd α} {e b : Nat} {ok : Nat → Prop} {v : Value} {xs : List α} (h : WrAt W g blk s) (hv : d.R e W b ok v xs) (ht : ∀ q, q ∈ e :: d.E → q ≠ 25) (u : Value) : d.R e (W.setCell ⟨g, 1, none⟩ u) b ok v xs := Kd.R_set hv h ht 1 u
/-- a record's header, in whatever later world -/
theorem hdr_cell {w : World} {ad : Addr} {n : Nat} {hs : List (Option Addr × Nat × Nat)} (h : hdK.C w (some ad) n hs) (i : Nat) (hi : i < n) (W : World) (hb : Below w.heap.size w W) : W.cell? (ad.add i) = some (.slice (hdr hs i).1 (hdr hs i).2.1 (hdr hs i).2.2) := by
  obtain ⟨ad2, e, hc⟩ := hd_at (Kd.C_below h hb) i hi
  have := Option.some.inj e
  subst this
  exact hc
set_option maxHeartbeats 8000000 in
set_option maxRecDepth 100000 in
theorem written_calls (blk : Nat) (A0 : Option Addr) (c0 : Nat) (rs : List (List Int)) (hs : List (Option Addr × Nat × Nat)) (w : World) (h1 : 32 ≤ blk) (h2 : blk ≤ 32768) (hH : Heads w rs hs) (hC : hdK.C w A0 rs.length hs) (hc0 : rs.length ≤ c0) (hby : ∀ r ∈ rs, Byt r) (hbulk : bulk rs ≤ 1048576) (hT : TabAt w) :
    Calls Tryd.prog 22 #[.int .i64 (blk : Int), .slice A0 rs.length c0] w fun e w' => ∃ v0 v1 v2 : Value, e = .returned (.tuple #[v0, v1, v2, .bool true]) ∧ Kd.R (Kd.int .u8) 5 w' w.heap.size (fun _ => True) v0 (fileOf blk rs) ∧ Kd.R (Kd.int .i64) 3 w' w.heap.size (fun _ => True) v1 (endsOf blk rs) ∧ Kd.R hdK 22 w' w.heap.size (fun _ => True) v2 hs ∧ Below w.heap.size w w' := by
  have HH := Aside0.mk hH
  have HC := Aside0.mk hC
  have HBY := Aside0.mk hby
  have HT := Aside0.mk hT
  have HBK := Aside0.mk hbulk
  have HHL := Aside0.mk hH.1
  have hinfo : (Tryd.prog.info? 5).map (fun i => (i.zero, i.size, i.bytes)) = some (some (.int .u8 0), 1, 1) := by kernel_rfl
  have HI := Aside0.mk hinfo
  have hinfo2 : (Tryd.prog.info? 3).map (fun i => (i.zero, i.size, i.bytes)) = some (some (.int .i64 0), 1, 8) := by kernel_rfl
  have HI2 := Aside0.mk hinfo2
  have hinfo3 : (Tryd.prog.info? 22).map (fun i => (i.zero, i.size, i.bytes)) = some (some (.slice none 0 0), 1, 24) := by kernel_rfl
  have HI3 := Aside0.mk hinfo3
  have hnl : rs.length ≤ 1048576 := Nat.le_trans (bulk_len rs) hbulk
  obtain ⟨n, hn⟩ : ∃ n, rs.length = n := ⟨_, rfl⟩
  have HN := Aside0.mk hn
  rw [hn] at hnl hc0 ⊢
  have HCC := Aside0.mk (show hdK.C w A0 n hs by rw [← hn]; exact hC)
  clear hH hC hby hT hbulk hinfo hinfo2 hinfo3 hn
  go_enter Tryd.func22, Tryd.ntmps22
  go_wp2_with fail
  (with_reducible refine (new_writer blk 0 _ h1 h2 (Int.le_refl _)).mono ?_)
  rintro e w1 ⟨g, rfl, hw, hg0, hb⟩
  have HW1 := Aside0.mk hw
  have HB1 := Aside0.mk hb
  have HG := Aside0.mk hg0
  clear hw hb hg0
  go_wp2_with fail
  go_loopw [10, 11, 12, 13] (fun v10 v11 v12 v13 wr => ∃ (k : Nat), v13 = .int .i64 (k : Int) ∧ k ≤ n ∧ Aside0 (Kd.R (Kd.int .u8) 5 wr w.heap.size (fun _ => True) v10 (fileOf blk (rs.take k))) ∧ Aside0 (Kd.R (Kd.int .i64) 3 wr w.heap.size (fun _ => True) v11 (endsOf blk (rs.take k))) ∧ Aside0 (Kd.R hdK 22 wr w.heap.size (fun _ => True) v12 (hs.take k)) ∧ Aside0 (WrAt wr g (blk : Int) ((fileOf blk (rs.take k)).length : Int)) ∧ Aside0 (Below w.heap.size w wr)) (fun _ _ _ v13 _ => n - (intOf v13).toNat)
  case atStart => exact ⟨0, rfl, by omega, ⟨Kd.R_nil _ _ _ _ _⟩, ⟨Kd.R_nil _ _ _ _ _⟩, ⟨Kd.R_nil _ _ _ _ _⟩, HW1, HB1⟩
  case round =>
    clear HW1 HB1
    obtain ⟨k, rfl, hkn, HF, HE, HK, HW, HB⟩ := hrel
    by_cases hlt : k < n
    · have b1 : decide ((k : Int) < (n : Int)) = true := decide_eq_true (by omega)
      have hkr : k < rs.length := by rw [HN.out]; exact hlt
      obtain ⟨ad, e1, _⟩ := hd_at HCC.out k hlt
      cases e1
      have HCELL := Aside0.mk (hdr_cell HCC.out k hlt)
      have hd2 := HH.out.2 k hkr
      have HSN := Aside0.mk (takeh_snoc (hs := hs) (k := k) (by rw [HHL.out]; exact hkr))
      have HFN := Aside0.mk (show fileOf blk (rs.take (k + 1)) = fileOf blk (rs.take k) ++ addR blk ((fileOf blk (rs.take k)).length % blk) (rec rs k) by rw [take_snoc hkr, fileOf_snoc])
      have HEN := Aside0.mk (endsOf_snoc blk rs k hkr)
      have hrl := bulk_rec hkr
      have hfl := fileOf_len blk h1 rs (k + 1) (by omega)
      have hfl0 := fileOf_len blk h1 rs k (by omega)
      have hbt := bulk_take rs (k + 1)
      have hbt0 := bulk_take rs k
      have HRB := Aside0.mk (HBY.out (rec rs k) (List.mem_of_getElem? (rec_get hkr)))
      obtain ⟨r, hr⟩ : ∃ r, rec rs k = r := ⟨_, rfl⟩
      obtain ⟨F, hF⟩ : ∃ F, fileOf blk (rs.take k) = F := ⟨_, rfl⟩
      obtain ⟨F2, hF2⟩ : ∃ F2, fileOf blk (rs.take (k + 1)) = F2 := ⟨_, rfl⟩
      obtain ⟨E, hE⟩ : ∃ E, endsOf blk (rs.take k) = E := ⟨_, rfl⟩
      have HEL := Aside0.mk (show E.length = k by rw [← hE]; unfold endsOf; rw [List.length_map, List.length_range, List.length_take]; omega)
      obtain ⟨x, hx⟩ : ∃ x, hdr hs k = x := ⟨_, rfl⟩
      rw [hx, hr] at hd2
      rw [hx] at HCELL HSN
      rw [hr] at hrl HRB HFN
      rw [hF] at HF HW hfl0 HFN
      rw [hF2] at hfl HFN HEN
      rw [hE] at HE HEN
      obtain ⟨B, m, dc⟩ := x
      obtain ⟨hm, hdc, hrC⟩ := hd2
      simp only [] at hm hdc hrC
      subst hm
      have HRC := Aside0.mk hrC
      have HDC := Aside0.mk hdc
      have hr1 : r.length ≤ 1048576 := by have := HBK.out; omega
      have hFl : F.length ≤ 24200000 := by have := HBK.out; omega
      have hF2l : F2.length ≤ 24200000 := by have := HBK.out; omega
      have b2 : decide ((r.length : Int) > 2097152) = false := decide_eq_false (by omega)
      have b3 : decide (2097152 < r.length) = false := decide_eq_false (by omega)
      have hAL : F2.length = F.length + (addR blk (F.length % blk) r).length := by rw [HFN.out, List.length_append]
      obtain ⟨D, hD⟩ : ∃ D, addR blk (F.length % blk) r = D := ⟨_, rfl⟩
      have hDL : 7 + r.length ≤ D.length := by rw [← hD, addR_len]; exact costR_ge blk h1 _ _
      have b4 : decide ((D.length : Int) < 7 + (r.length : Int)) = false := decide_eq_false (by omega)
      rw [hD] at HFN hAL
      have HD := Aside0.mk hD
      have HFL := Aside0.mk hFl
      have HF2L := Aside0.mk hF2l
      have HR1 := Aside0.mk hr1
      have HDL := Aside0.mk (show D.length ≤ 24200000 by omega)
      have hq1 := HCELL.out wr HB.out
      have ew : wrap64 ((k : Int) + 1) = ((k + 1 : Nat) : Int) := by unfold wrap64; omega
      have HX2 := Aside0.mk hF2
      have HAL := Aside0.mk hAL
      clear hrC hdc hfl hfl0 hbt hbt0 hrl hr hF hF2 hE hx hFl hF2l hAL hD hkr hDL
      have hk1 : k ≤ 1048576 := by omega
      go_wp2_with fail
      (with_reducible refine (wr_add g blk F.length B dc r wr h1 h2 (by have := HFL.out; omega) HW.out (HT.out.below HB.out) (Kd.C_below HRC.out HB.out) HDC.out HRB.out (by have := HR1.out; omega)).mono ?_)
      rintro e w2 ⟨vd, rfl, hdR, hw2, w1', hb1, rfl⟩
      rw [HD.out] at hdR hw2 ⊢
      have hw1' := HW.out.below hb1
      have HB2 := Aside0.mk (below_set (v := .int .i64 ((F.length + D.length : Nat) : Int)) (j := 1) (below_step HB.out hb1) HG.out)
      have HF2' := Aside0.mk (wr_set hw1' (Kd.R_below HF.out hb1) (by decide) (.int .i64 ((F.length + D.length : Nat) : Int)))
      have HE2 := Aside0.mk (wr_set hw1' (Kd.R_below HE.out hb1) (by decide) (.int .i64 ((F.length + D.length : Nat) : Int)))
      have HK2 := Aside0.mk (wr_set hw1' (Kd.R_below HK.out hb1) (by decide) (.int .i64 ((F.length + D.length : Nat) : Int)))
      have HW2 := Aside0.mk hw2
      have HDR := Aside0.mk hdR
      obtain ⟨AD, cD, rfl, hcD, hD2⟩ := Kd.R_reads hdR
      have HD2 := Aside0.mk hD2
      generalize hWW : w1'.setCell ⟨g, 1, none⟩ (.int .i64 ((F.length + D.length : Nat) : Int)) = W2 at *
      have hq2 := HCELL.out W2 HB2.out
      clear hWW hw1' hb1 hw2 hdR hD2 hq1 hcD
      go_wp2_with (first
        | ((with_reducible refine gate_builtin (b := .append) (xs := #[.tmp 61, .tmp 62]) rfl ?_); at_builtin; refine Kd.R_append_rows (Kd.int .u8)  (w0 := w) w.heap.size rfl (.tmp 61) (.tmp 62) 22 5 (.int .u8 0) 1 rfl Tryd.underlying22 HI.out rfl (by decide) (by omega) u10 F D _ _ _ (fun _ => True) (fun _ => False) rfl rfl ?aO ?aR (fun _ _ h => h) (fun _ h => h.elim) (fun _ _ => trivial) ?aB ?aS ?aL ?_; (case aO => exact HF2'.out); (case aR => exact HD2.out); (case aB => exact HB2.out); (case aS => exact (HB2.out).size); (case aL => have := HFL.out; have := HDL.out; omega); intro v63 w3 ho hb hg hat; rw [← HFN.out] at ho; have HE3 := Aside0.mk (Kd.R_over HE2.out HF2'.out (by decide) hg); have HK3 := Aside0.mk (Kd.R_over HK2.out HF2'.out (by decide) hg); have HW3 := Aside0.mk (wr_grown HW2.out HF2'.out (by decide) hg); have HF3 := Aside0.mk ho; have HB3 := Aside0.mk hb; obtain ⟨AF, cF, rfl⟩ := Kd.R_slice HF3.out; clear ho hb hg hat)
        | ((with_reducible refine gate_builtin (b := .append) (xs := #[.tmp 64, .tmp 67]) rfl ?_); at_builtin; refine Kd.R_append (Kd.int .i64) (w0 := w) w.heap.size rfl (.tmp 64) (.tmp 67) 46 3 (.int .i64 0) 8 rfl Tryd.underlying46 HI2.out rfl (by decide) (by omega) u11 E (F2.length : Int) [.int .i64 (F2.length : Int)] (fun _ => True) (fun _ => False) rfl rfl ?aP (fun _ hk => hk.elim) (fun _ _ => trivial) ?aO ?aB ?aS ?aL ?_; (case aP => exact rfl); (case aO => exact HE3.out); (case aB => exact HB3.out); (case aS => exact (HB3.out).size); (case aL => rw [HEL.out]; omega); intro v68 w4 ho hb hg hat; rw [← HEN.out] at ho; have HF4 := Aside0.mk (Kd.R_over HF3.out HE3.out (by decide) hg); have HK4 := Aside0.mk (Kd.R_over HK3.out HE3.out (by decide) hg); have HW4 := Aside0.mk (wr_grown HW3.out HE3.out (by decide) hg); have HE4 := Aside0.mk ho; have HB4 := Aside0.mk hb; have hq4 := HCELL.out w4 HB4.out; clear ho hb hg hat)
        | ((with_reducible refine gate_builtin (b := .append) (xs := #[.tmp 69, .tmp 74]) rfl ?_); at_builtin; refine Kd.R_append hdK (w0 := w) w.heap.size rfl (.tmp 69) (.tmp 74) 33 22 (.slice none 0 0) 24 rfl Tryd.underlying33 HI3.out rfl (by decide) (by omega) u12 (hs.take k) (B, r.length, dc) [.slice B r.length dc] (fun _ => True) (fun _ => False) rfl rfl ?aP (fun _ hk => hk.elim) (fun _ _ => trivial) ?aO ?aB ?aS ?aL ?_; (case aP => exact rfl); (case aO => exact HK4.out); (case aB => exact HB4.out); (case aS => exact (HB4.out).size); (case aL => rw [List.length_take]; omega); intro v75 w5 ho hb hg hat; rw [← HSN.out] at ho; have HF5 := Aside0.mk (Kd.R_over HF4.out HK4.out (by decide) hg); have HE5 := Aside0.mk (Kd.R_over HE4.out HK4.out (by decide) hg); have HW5 := Aside0.mk (wr_grown HW4.out HK4.out (by decide) hg); have HK5 := Aside0.mk ho; have HB5 := Aside0.mk hb; clear ho hb hg hat))
      go_roundw
      case rel => exact ⟨k + 1, by go_num, by omega, by rw [HX2.out]; exact HF5, HE5, HK5, by rw [HX2.out, HAL.out]; exact HW5, HB5⟩
      case measure => simp only [intOf]; omega
    · obtain rfl : k = n := by omega
      have b1 : decide ((k : Int) < (k : Int)) = false := decide_eq_false (by omega)
      have hr1 : rs.take k = rs := List.take_of_length_le (Nat.le_of_eq HN.out)
      have hr2 : hs.take k = hs := List.take_of_length_le (Nat.le_of_eq (HHL.out.trans HN.out))
      rw [hr1] at HF HE HW
      rw [hr2] at HK
      obtain ⟨F, hF⟩ : ∃ F, fileOf blk rs = F := ⟨_, rfl⟩
      obtain ⟨E, hE⟩ : ∃ E, endsOf blk rs = E := ⟨_, rfl⟩
      have HX := Aside0.mk hF
      have HX2 := Aside0.mk hE
      rw [hF] at HF HW
      rw [hE] at HE
      obtain ⟨AF, cF, rfl⟩ := Kd.R_slice HF.out
      clear hr1 hr2 hF hE
      go_wp2_with fail
      (with_reducible refine (wr_size g _ _ (by omega) _ HW.out).mono ?_)
      rintro e w2 ⟨rfl, rfl⟩
      go_wp2
      refine bodyPost_ret (v := .tuple #[.slice AF F.length cF, u11, u12, .bool true]) (by simp [results, Tryd.results22, go_sem]) rfl ?_
      exact ⟨_, _, _, rfl, by rw [HX.out]; exact HF.out, by rw [HX2.out]; exact HE.out, HK.out, HB.out⟩

end Go.Proofs.YtmpkigambfghgaaDoor.G

/- Contracts typed by hand: journal: Read by hand -/
namespace Go.Proofs.YtmpkigambfghgaaDoor.G
open Go.RowKit Go.Proofs.YtmpkigambfghgaaDoorW.PrintWords Go.Proofs.YtmpkigambfghgaaDoorW.PrintLast Go.Proofs.YtmpkigambfghgaaDoorW.PrintMore
attribute [local go_sem] max2_int min2_int max_two min_two max_three min_three max_four min_four
set_option linter.unusedVariables false
set_option linter.unusedSimpArgs false

/-! journal: Read by hand -/
theorem bx_chg {M : Nat → Prop} {W W1 : World} {B : Nat} {t : TypeId} {v : Value} (h : Boxed W B t v) (hc : Chg M W W1) (hm : ¬ M B) : Boxed W1 B t v := (hc.block B h.lt hm).trans h
theorem bx_below {W W1 : World} {B : Nat} {t : TypeId} {v : Value} (h : Boxed W B t v) (hb : Below W.heap.size W W1) : Boxed W1 B t v := (hb.block B h.lt).trans h
set_option maxHeartbeats 4000000 in
set_option maxRecDepth 100000 in
theorem read1_seq (n Rb Bv H B0 blk : Nat) (A : Option Addr) (c : Nat) (f : List Int) (wf Wl : World) (V : Nat → Prop) (outs : List (Nat × List Int)) (how : Nat)
    (h1 : 32 ≤ blk) (h2 : blk ≤ 32768) (hR : RdAt Wl Rb blk A f.length c 0 (.slice none 0 0) false) (hB : Boxed Wl Bv 73 (.pointer (some ⟨Rb, 0, none⟩))) (hH : Boxed Wl H 3 (.int .i64 0)) (hC : Kd.C (Kd.int .u8) wf A f.length f) (hc : f.length ≤ c) (hb : Byt f) (hl : f.length ≤ 1099511627776) (hwf : Below wf.heap.size wf Wl) (hT : TabAt wf)
    (hRf : wf.heap.size ≤ Rb) (hHf : wf.heap.size ≤ H) (hV : ∀ k, V k → wf.heap.size ≤ k ∧ k ≠ Rb ∧ k ≠ H) (hRB : Rb < B0) (hHB : H < B0) (hHR : H ≠ Rb) (hBW : B0 = Wl.heap.size) (hrd : Reads blk f 0 [] false outs how) :
    SeqSt n Tryd.prog 33 #[.pointer (some ⟨Bv, 0, none⟩), .pointer (some ⟨H, 0, none⟩)] encY OkY (fun x => x.2.2.2) (fun k => k = Rb ∨ k = H) V (fun xs X => xs.map outY = outs ∧ Boxed X H 3 (.int .i64 (how : Int))) (fun pre => pre.map outY <+: outs) Wl := by
  intro l J Jx W hW hJ hJx hY h0
  have HJ := Aside0.mk hJ
  have HJX := Aside0.mk hJx
  have HHB := Aside0.mk hHB
  have HHR := Aside0.mk hHR
  have HV := Aside0.mk hV
  have HBH := Aside0.mk (bx_below hH hW)
  have hcell := (bx_below hB hW).cell
  have HG := Aside0.mk (goOn_calls l (n - 1) Rb blk B0 A c f wf W (fun k => k = Rb ∨ k = H) V J Jx outs how h1 h2 (hR.below hW) hC hc hb hl ⟨hW.os.trans hwf.os, hW.tape.trans hwf.tape, hW.output.trans hwf.output, Nat.le_trans hwf.size hW.size, fun k hk => (hW.block k (Nat.lt_of_lt_of_le hk hwf.size)).trans (hwf.block k hk)⟩ hT (.inl rfl) hRf (fun k hk => ⟨(hV k hk).1, (hV k hk).2.1⟩) hRB (by rw [hBW]; exact hW.size) hJ (by rw [hBW]; exact hY) h0 hrd)
  clear hJ hJx hHB hHR hV hH hB hR hC hc hb hl hwf hT hRf hHf hRB hBW hrd hW hY h0
  refine callsIn_wide.2 ?_
  show Calls Tryd.prog 33 #[.func (.yield l) #[] #[], .pointer (some ⟨Bv, 0, none⟩), .pointer (some ⟨H, 0, none⟩)] W _
  go_enter Tryd.func33, Tryd.ntmps33
  go_wp2_with fail
  (with_reducible refine HG.out.mono ?_)
  rintro e w1 ⟨hc, hres⟩
  have HB1 := Aside0.mk (bx_chg HBH.out hc (by rintro (h | h | h); exact HHR.out h; exact (HV.out H h).2.2 rfl; have := HHB.out; omega))
  have q1 := HB1.out.cell
  have q2 := HB1.out.frozen
  clear hc hcell
  rcases hres with ⟨xs, rfl, hm, hj⟩ | ⟨pre, rfl, hm, hj⟩
  · have HM := Aside0.mk hm
    have HJ1 := Aside0.mk (HJ.out _ _ _ hj (Chg.set (fun k => k = Rb ∨ k = H) w1 H 0 (.int .i64 (how : Int)) (.inr rfl)))
    clear hm hj
    go_wp2
    go_end0
    exact ⟨⟨_, rfl⟩, .inl ⟨xs, ⟨HM.out, HB1.out.set _⟩, HJ1.out⟩⟩
  · have HM := Aside0.mk hm
    have HJ1 := Aside0.mk (HJX.out _ _ _ hj (Chg.set (fun k => k = Rb ∨ k = H) w1 H 0 (.int .i64 0) (.inr rfl)))
    clear hm hj
    go_wp2
    go_end0
    exact ⟨⟨_, rfl⟩, .inr ⟨pre, HM.out, HJ1.out⟩⟩
/-! what the loop gathers -/
def hdY (x : Yx) : Option Addr × Nat × Nat := match x.2.2.1 with | .slice A n c => (A, n, c) | _ => (none, 0, 0)
def endY (l : List Yx) : Int := match l.getLast? with | some x => (x.1 : Int) | none => 0
theorem endY_snoc (l : List Yx) (x : Yx) : endY (l ++ [x]) = (x.1 : Int) := by simp [endY]
def valY (l : List Yx) (i : Nat) : Value := (l.getD i (0, [], .slice none 0 0, 0)).2.2.1
def datY (l : List Yx) (i : Nat) : List Int := (l.getD i (0, [], .slice none 0 0, 0)).2.1
structure Recs (X : World) (B : Nat) (l : List Yx) : Prop where
  rows : ∀ i, i < l.length → Kd.R (Kd.int .u8) 5 X B (fun _ => True) (valY l i) (datY l i)
  apart : ∀ i j, i < j → j < l.length → ∀ k, (valY l i).ownBlock = some k → (valY l j).ownBlock ≠ some k
theorem Recs.nil (X : World) (B : Nat) : Recs X B [] := ⟨fun i h => absurd h (Nat.not_lt_zero i), fun i j _ h => absurd h (Nat.not_lt_zero j)⟩
theorem Recs.step {X Z : World} {B : Nat} {l : List Yx} (h : Recs X B l) (hs : ∀ (v : Value) (xs : List Int), Kd.R (Kd.int .u8) 5 X B (fun _ => True) v xs → Kd.R (Kd.int .u8) 5 Z B (fun _ => True) v xs) : Recs Z B l := ⟨fun i hi => hs _ _ (h.rows i hi), h.apart⟩
theorem getD_snoc_lt {α : Type} (l : List α) (x d : α) (i : Nat) (h : i < l.length) : (l ++ [x]).getD i d = l.getD i d := by
  rw [List.getD_eq_getElem?_getD, List.getD_eq_getElem?_getD, List.getElem?_append_left h]
theorem getD_snoc_eq {α : Type} (l : List α) (x d : α) : (l ++ [x]).getD l.length d = x := by
  rw [List.getD_eq_getElem?_getD, List.getElem?_append_right (Nat.le_refl _), Nat.sub_self]; rfl
theorem Recs.snoc {X : World} {B : Nat} {l : List Yx} {x : Yx} (h : Recs X B l) (hx : Kd.R (Kd.int .u8) 5 X B (fun _ => True) x.2.2.1 x.2.1) (ha : ∀ i, i < l.length → ∀ k, (valY l i).ownBlock = some k → x.2.2.1.ownBlock ≠ some k) : Recs X B (l ++ [x]) := by
  have e1 : ∀ i, i < l.length → valY (l ++ [x]) i = valY l i ∧ datY (l ++ [x]) i = datY l i := fun i hi => by unfold valY datY; rw [getD_snoc_lt l x _ i hi]; exact ⟨rfl, rfl⟩
  have e2 : valY (l ++ [x]) l.length = x.2.2.1 ∧ datY (l ++ [x]) l.length = x.2.1 := by unfold valY datY; rw [getD_snoc_eq]; exact ⟨rfl, rfl⟩
  refine ⟨fun i hi => ?_, fun i j hij hj k hk => ?_⟩
  · by_cases hlt : i < l.length
    · rw [(e1 i hlt).1, (e1 i hlt).2]; exact h.rows i hlt
    · obtain rfl : i = l.length := by simp at hi; omega
      rw [e2.1, e2.2]; exact hx
  · by_cases hlt : j < l.length
    · rw [(e1 j hlt).1]; rw [(e1 i (by omega)).1] at hk; exact h.apart i j hij hlt k hk
    · obtain rfl : j = l.length := by simp at hj; omega
      rw [e2.1]; rw [(e1 i hij).1] at hk; exact ha i hij k hk
/-- a row of the call's own does not turn where others than cells do -/
theorem R_others {α : Type} {d : Kd α} {e b : Nat} {X Z : World} {v : Value} {xs : List α} {row : Option Nat} (hE : d.E = []) (h : d.R e X b (fun _ => True) v xs) (hg : X.grownBy Z row) (hr : ∀ r, row = some r → ∃ o : Obj, X.heap[r]? = some o ∧ o.isCells = false) : d.R e Z b (fun _ => True) v xs :=
  Kd.R_mono (Kd.R_grown (Kd.R_tight hE h) hg (fun k hk e' => by
    obtain ⟨cells, hc⟩ := Kd.R_typed h k hk.symm
    obtain ⟨o, ho, hn⟩ := hr k e'.symm
    rw [hc] at ho; cases ho; cases hn)) (fun _ _ => trivial)
theorem R_chg {α : Type} {d : Kd α} {e b : Nat} {X Z : World} {v : Value} {xs : List α} {M : Nat → Prop} (h : d.R e X b (fun _ => True) v xs) (hc : Chg M X Z) (hm : ∀ k, M k → k < b) : d.R e Z b (fun _ => True) v xs :=
  Kd.R_mono (Kd.R_step (Kd.R_bound h) (fun k hk hlt => hc.block k hlt (fun hM => by have := hm k hM; have := hk.2.1; omega))) (fun _ _ => trivial)
theorem R_raise1 {X : World} {b b' : Nat} {v : Value} {xs : List Int} {ok : Nat → Prop} (h : Kd.R (Kd.int .u8) 5 X b ok v xs) (hb : b' ≤ b) : Kd.R (Kd.int .u8) 5 X b' ok v xs := Kd.R_lower h hb
/-- what holds between the rounds: the records' row, the place behind the last one, the records themselves -/
def RdI (w : World) (a B0 : Nat) (pre : List Yx) (X : World) : Prop :=
  B0 ≤ X.heap.size ∧ (∃ v, Boxed X a 33 v ∧ Kd.R hdK 22 X B0 (fun _ => True) v (pre.map hdY)) ∧ Boxed X (a + 1) 3 (.int .i64 (endY pre)) ∧ Recs X B0 pre ∧ Below w.heap.size w X
theorem rdI_own (w : World) (a B0 : Nat) (hB : w.heap.size ≤ B0) : OwnFrom B0 (RdI w a B0) := by
  rintro pre X Z row ⟨h1, ⟨v, h2, h3⟩, h4, h5, h6⟩ hg hr
  have hr' : ∀ r, row = some r → ∃ o : Obj, X.heap[r]? = some o ∧ o.isCells = false := fun r e => (hr r e).2
  have bk : ∀ (B : Nat) (t : TypeId) (u : Value), Boxed X B t u → Boxed Z B t u := fun B t u h => h.kept hg (fun e => by
    obtain ⟨o, ho, hn⟩ := hr' B e.symm
    rw [show X.heap[B]? = _ from h] at ho; cases ho; cases hn)
  exact ⟨Nat.le_trans h1 hg.size, ⟨v, bk _ _ _ h2, R_others rfl h3 hg hr'⟩, bk _ _ _ h4, h5.step (fun v xs h => R_others rfl h hg hr'), h6.grown hg h6.size (fun k e => by have := (hr k e).1; omega)⟩
theorem rdI_chg (w : World) (a B0 : Nat) (M : Nat → Prop) (hM : ∀ k, M k → k < B0 ∧ w.heap.size ≤ k ∧ k ≠ a ∧ k ≠ a + 1) : ∀ s X Z, RdI w a B0 s X → Chg M X Z → RdI w a B0 s Z := by
  rintro pre X Z ⟨h1, ⟨v, h2, h3⟩, h4, h5, h6⟩ hc
  exact ⟨Nat.le_trans h1 hc.size, ⟨v, bx_chg h2 hc (fun h => (hM _ h).2.2.1 rfl), R_chg h3 hc (fun k h => (hM k h).1)⟩, bx_chg h4 hc (fun h => (hM _ h).2.2.2 rfl), h5.step (fun v xs h => R_chg h hc (fun k h => (hM k h).1)), below_chg h6 hc (fun k h => (hM k h).2.1)⟩

end Go.Proofs.YtmpkigambfghgaaDoor.G

/- Contracts typed by hand: journal: Read by hand, its walk -/
namespace Go.Proofs.YtmpkigambfghgaaDoor.G
open Go.RowKit Go.Proofs.YtmpkigambfghgaaDoorW.PrintWords Go.Proofs.YtmpkigambfghgaaDoorW.PrintLast Go.Proofs.YtmpkigambfghgaaDoorW.PrintMore
attribute [local go_sem] max2_int min2_int max_two min_two max_three min_three max_four min_four
set_option linter.unusedVariables false
set_option linter.unusedSimpArgs false

/-! journal: Read by hand, its walk -/
open Go.Shelf
attribute [local go_sem] Oper.semAt_some
theorem Reads.len {blk : Nat} {f : List Int} {p : Nat} {d : List Int} {o : Bool} {l : List (Nat × List Int)} {how : Nat} (h : Reads blk f p d o l how) : l.length ≤ f.length - p := by
  induction h with
  | pad p d o l h h1 h2 h3 h4 ih => omega
  | more p d o l h h1 h2 h3 h4 h5 h6 ih => omega
  | whole p d o l h h1 h2 h3 h4 h5 h6 ih => rw [List.length_cons]; omega
  | _ => simp
theorem results_ccct {P : Program} {fn : Func} {p q r v : Tmp} {ty tz tw e : TypeId} {k1 k2 : IntKind} (h : fn.results = #[.cell p ty, .cell q tz, .cell r tw, .tmp v]) (tmps : Array Value) (w : World) (g1 g2 g3 : Nat) (x y z : Value)
    (hp : tmps.getD p undef = .pointer (some ⟨g1, 0, none⟩)) (hq : tmps.getD q undef = .pointer (some ⟨g2, 0, none⟩)) (hr : tmps.getD r undef = .pointer (some ⟨g3, 0, none⟩))
    (c1 : w.cell? ⟨g1, 0, none⟩ = some x) (c2 : w.cell? ⟨g2, 0, none⟩ = some y) (c3 : w.cell? ⟨g3, 0, none⟩ = some z) (u1 : P.underlying ty = some (.slice e)) (u2 : P.underlying tz = some (.int k1)) (u3 : P.underlying tw = some (.int k2)) :
    (results fn tmps).run P w = .ok (.tuple #[x, y, z, tmps.getD v undef]) w := by
  have hp' : tmps[p]?.getD undef = .pointer (some ⟨g1, 0, none⟩) := by simpa using hp
  have hq' : tmps[q]?.getD undef = .pointer (some ⟨g2, 0, none⟩) := by simpa using hq
  have hr' : tmps[r]?.getD undef = .pointer (some ⟨g3, 0, none⟩) := by simpa using hr
  simp [results, h, hp', hq', hr', asAddr, loadVar, isAgg, run_underlying u1, run_underlying u2, run_underlying u3, c1, c2, c3, go_sem]
set_option maxHeartbeats 8000000 in
set_option maxRecDepth 100000 in
theorem read_calls (blk : Nat) (A : Option Addr) (c : Nat) (f : List Int) (w : World) (outs : List (Nat × List Int)) (how : Nat) (h1 : 32 ≤ blk) (h2 : blk ≤ 32768) (hC : Kd.C (Kd.int .u8) w A f.length f) (hc : f.length ≤ c) (hb : Byt f) (hl : f.length ≤ 1099511627776) (hT : TabAt w) (hrd : Reads blk f 0 [] false outs how) :
    Calls Tryd.prog 23 #[.int .i64 (blk : Int), .slice A f.length c] w fun e w' => ∃ (v0 : Value) (xs : List Yx), e = .returned (.tuple #[v0, .int .i64 (endY xs), .int .i64 (how : Int), .int .i64 0]) ∧ xs.map outY = outs ∧ Kd.R hdK 22 w' w.heap.size (fun _ => True) v0 (xs.map hdY) ∧ Recs w' w.heap.size xs ∧ Below w.heap.size w w' := by
  have HC := Aside0.mk hC
  have HCC := Aside0.mk hc
  have HBY := Aside0.mk hb
  have HLEN := Aside0.mk hl
  have HT := Aside0.mk hT
  have HRD := Aside0.mk hrd
  have HOL := Aside0.mk (show outs.length ≤ 1099511627776 from Nat.le_trans hrd.len (by omega))
  have HVV := Aside0.mk (journal_isBlock.calls (blk : Int) true (((w.alloc (.cells #[.slice none 0 0] 33)).alloc (.cells #[.int .i64 0] 3)).alloc (.cells #[.int .i64 0] 3)) (by unfold journal_isBlock.f; rw [if_pos (by omega)]; simp; omega))
  clear hC hc hb hl hT hrd
  refine (callsIn_wide (n := 5)).1 ?_
  refine callsIn_of_wp_marks Tryd.func23 rfl trivial ?_ rfl
  simp only [Tryd.ntmps23, List.size_toArray, List.length_cons, List.length_nil, Nat.reduceAdd, Nat.reduceSub, Array.replicate_succ, Array.replicate_zero, List.push_toArray, List.append_toArray, List.nil_append, List.cons_append]
  refine wpIn_wide.2 ?_
  go_wp2_with fail
  (with_reducible refine HVV.out.mono ?_)
  rintro e w1 ⟨rfl, hd⟩
  have HB1 := Aside0.mk (show Below w.heap.size w w1 from below_step (below_alloc (below_alloc (below_alloc (Below.refl _ _) _) _) _) hd.below)
  have HX0 := Aside0.mk (bx_below (((Boxed.new w 33 (.slice none 0 0)).alloc (.cells #[.int .i64 0] 3)).alloc (.cells #[.int .i64 0] 3)) hd.below)
  have HX1 := Aside0.mk (bx_below ((Boxed.new (w.alloc (.cells #[.slice none 0 0] 33)) 3 (.int .i64 0)).alloc (.cells #[.int .i64 0] 3)) hd.below)
  have HX2 := Aside0.mk (bx_below (Boxed.new ((w.alloc (.cells #[.slice none 0 0] 33)).alloc (.cells #[.int .i64 0] 3)) 3 (.int .i64 0)) hd.below)
  rw [World.size_alloc] at HX1
  rw [World.size_alloc, World.size_alloc] at HX2
  have HSZ := Aside0.mk (show w1.heap.size = w.heap.size + 3 by obtain ⟨nd, e⟩ := hd; rw [e]; simp)
  clear hd
  go_wp2
  rw [HSZ.out]
  obtain ⟨Wl, hWl⟩ : ∃ Wl, ((w1.alloc (.cells #[.int .i64 (blk : Int), .slice A f.length c, .int .i64 0, .slice none 0 0, .bool false] 75)).alloc (.cells #[.pointer (some ⟨w.heap.size + 3, 0, none⟩)] 73)) = Wl := ⟨_, rfl⟩
  have hzl : Wl.heap.size = w.heap.size + 5 := by rw [← hWl, World.size_alloc, World.size_alloc, HSZ.out]
  have hx0 : Boxed Wl w.heap.size 33 (.slice none 0 0) := by rw [← hWl]; exact (HX0.out.alloc _).alloc _
  have hx1 : Boxed Wl (w.heap.size + 1) 3 (.int .i64 0) := by rw [← hWl]; exact (HX1.out.alloc _).alloc _
  have hx2 : Boxed Wl (w.heap.size + 1 + 1) 3 (.int .i64 0) := by rw [← hWl]; exact (HX2.out.alloc _).alloc _
  have hxr : RdAt Wl (w.heap.size + 3) blk A f.length c 0 (.slice none 0 0) false := by
    have := World.alloc_heap_new w1 (.cells #[.int .i64 (blk : Int), .slice A f.length c, .int .i64 0, .slice none 0 0, .bool false] 75)
    rw [HSZ.out] at this
    rw [← hWl]; exact (Below.heap_alloc _ _ _ (by rw [World.size_alloc, HSZ.out]; omega)).trans this
  have hxp : Boxed Wl (w.heap.size + 3 + 1) 73 (.pointer (some ⟨w.heap.size + 3, 0, none⟩)) := by
    have := Boxed.new (w1.alloc (.cells #[.int .i64 (blk : Int), .slice A f.length c, .int .i64 0, .slice none 0 0, .bool false] 75)) 73 (.pointer (some ⟨w.heap.size + 3, 0, none⟩))
    rw [World.size_alloc, HSZ.out] at this
    rw [← hWl]; exact this
  have hbl : Below w.heap.size w Wl := by rw [← hWl]; exact below_alloc (below_alloc HB1.out _) _
  rw [hWl]
  clear hWl
  have HBL := Aside0.mk hbl
  refine (wpIn_wide (n := 5)).1 ?_
  refine range_st (n := 5) (by decide) (gf := 33) (lb := #[.pointer (some ⟨w.heap.size + 3 + 1, 0, none⟩), .pointer (some ⟨w.heap.size + 1 + 1, 0, none⟩)]) rfl (enters_of Tryd.func33 (by kernel_rfl) rfl)
    (M := fun k => k = w.heap.size + 3 ∨ k = w.heap.size + 1 + 1) (V := fun k => k = w.heap.size ∨ k = w.heap.size + 1) (by rintro k (h | h) <;> omega) (fun _ => rfl)
    (read1_seq (5 - 1) (w.heap.size + 3) (w.heap.size + 3 + 1) (w.heap.size + 1 + 1) Wl.heap.size blk A c f w Wl (fun k => k = w.heap.size ∨ k = w.heap.size + 1) outs how h1 h2 hxr hxp hx2 HC.out HCC.out HBY.out HLEN.out hbl HT.out (by omega) (by omega) (by rintro k (h | h) <;> omega) (by omega) (by omega) (by omega) rfl HRD.out)
    (RdI w w.heap.size Wl.heap.size) (fun _ _ _ => False) (rdI_own w _ _ (by omega)) (fun _ _ _ _ _ hs _ _ => hs) (rdI_chg w _ _ _ (by rintro k (h | h) <;> omega)) (fun _ _ _ _ hs _ => hs)
    (fun x X Z row h hg hr => R_others rfl h hg (fun r e => (hr r e).2)) (fun xs X l' o' h hle => ⟨h.1, h.2.kept (grownBy_putObj' X l' o') (fun e => by cases e; omega)⟩)
    ⟨Nat.le_refl _, ⟨_, hx0, Kd.R_nil _ _ _ _ _⟩, hx1, Recs.nil _ _, hbl⟩ (fun x => { tmps := #[.int .i64 (blk : Int), .slice A f.length c, undef, undef, .pointer (some ⟨w.heap.size, 0, none⟩), .pointer (some ⟨w.heap.size + 1, 0, none⟩), .pointer (some ⟨w.heap.size + 1 + 1, 0, none⟩), .int .i64 0, .pointer (some ⟨w.heap.size + 3 + 1, 0, none⟩), .func (.func 33) #[] #[.pointer (some ⟨w.heap.size + 3 + 1, 0, none⟩), .pointer (some ⟨w.heap.size + 1 + 1, 0, none⟩)], .int .i64 (x.1 : Int), x.2.2.1, .int .i64 (blk : Int), .bool true, .bool false, .int .i64 (blk : Int), .slice A f.length c, .agg #[.int .i64 (blk : Int), .slice A f.length c, .int .i64 0, .slice none 0 0, .bool false], .pointer (some ⟨w.heap.size + 3, 0, none⟩), .func (.func 33) #[] #[.pointer (some ⟨w.heap.size + 3 + 1, 0, none⟩), .pointer (some ⟨w.heap.size + 1 + 1, 0, none⟩)], .func (.func 33) #[] #[.pointer (some ⟨w.heap.size + 3 + 1, 0, none⟩), .pointer (some ⟨w.heap.size + 1 + 1, 0, none⟩)], .int .i64 (x.1 : Int), x.2.2.1, undef, undef, undef, undef, undef, undef, undef, undef], defers := [] }) ?assign ?body ?done ?stop
  case assign =>
    intro l x X K hK
    simp only [encY]
    gi_wp2
    exact hK
  case body =>
    rintro l' pre ⟨p, d, v, N⟩ X hl' hsz ⟨hs1, ⟨vr, hv, hrow0⟩, he, hrecs, hbw⟩ ⟨Yw, ⟨hy1, _, _, hyr, _⟩, hyN⟩ hok hsp
    have hok' : Kd.R (Kd.int .u8) 5 X N (fun _ => True) v d := hok
    obtain ⟨Ax, cx, rfl⟩ := Kd.R_slice hok'
    have hyN' : Yw.heap.size ≤ N := hyN
    have hrow : X.ownsRow Wl.heap.size 22 1 vr pre.length (encs (fun x : Option Addr × Nat × Nat => Value.slice x.1 x.2.1 x.2.2) (pre.map hdY)) := by
      have := Kd.own_of_R hrow0
      rwa [List.length_map] at this
    have hpl : pre.length + 1 ≤ 1099511627776 := by
      have h3 := hsp.length_le
      rw [List.length_map, List.length_append] at h3
      have := HOL.out
      simp at h3
      omega
    have hc1 := hv.cell
    have hinfo : (Tryd.prog.info? 22).map (fun i => (i.zero, i.size, i.bytes)) = some (some (.slice none 0 0), 1, 24) := by kernel_rfl
    obtain ⟨i0, hi, hz0, hz1, hz2⟩ := info_parts hinfo
    have HOK := Aside0.mk hok'
    have HRECS := Aside0.mk hrecs
    have HYR := Aside0.mk hyr
    have HBW2 := Aside0.mk hbw
    have hapart : ∀ i, i < pre.length → ∀ k, (valY pre i).ownBlock = some k → (Value.slice Ax d.length cx).ownBlock ≠ some k := by
      intro i hi k hk he'
      have h3 := Kd.R_lt (hyr.rows i hi) k hk
      have h4 := Kd.R_base hok' k he'
      omega
    have HAP := Aside0.mk hapart
    have hN0 : Wl.heap.size ≤ N := Nat.le_trans hy1 hyN'
    clear hok hok' hrecs hyr hbw hapart hinfo
    gi_wp2_with (gi_at_builtin; refine wpListIn_append_own _ rfl _ _ 33 rfl Wl.heap.size 22 i0 _ 1 24 Tryd.underlying33 hi hz0 hz1 hz2 rfl (by decide) _ _ _ rfl (hrow.alloc _) ⟨X.heap.size, 0, none⟩ 1 1 [.slice Ax d.length cx] rfl rfl (cell_one_new _ _ _) (by simp [Value.oneCell']) (by unfold maxLen; omega) (by omega) (by rw [World.size_alloc]; omega) ?_; intro v' W1 hown' hgrow _; obtain ⟨g', cap', rfl⟩ := ownsRow_succ hown'; have hv1 := (hv.alloc _).kept hgrow (hv.not_row (by decide) hrow); have he1 := (he.alloc _).kept hgrow (he.not_row (by decide) hrow); have hq1 := hv1.cell; have hq2 := hv1.frozen; have hq3 := he1.cell; have hq4 := he1.frozen)
    rw [← hzl]
    have hw1 : X.heap.size + 1 ≤ W1.heap.size := by have := hgrow.size; rwa [World.size_alloc] at this
    have hoff : ∀ k, vr.ownBlock = some k → Wl.heap.size ≤ k := Kd.R_base hrow0
    have hty : ∀ k, vr.ownBlock = some k → ∃ cells, (X.alloc (.cells #[.slice Ax d.length cx] 22)).heap[k]? = some (.cells cells 22 (0, 0)) := Kd.R_typed (Kd.R_alloc hrow0 _)
    have hstep : ∀ (v : Value) (xs : List Int), Kd.R (Kd.int .u8) 5 X Wl.heap.size (fun _ => True) v xs → Kd.R (Kd.int .u8) 5 ((W1.setCell ⟨w.heap.size, 0, none⟩ (.slice (some ⟨g', 0, none⟩) (pre.length + 1) cap')).setCell ⟨w.heap.size + 1, 0, none⟩ (.int .i64 (p : Int))) Wl.heap.size (fun _ => True) v xs :=
      fun v xs h => Kd.R_set (Kd.R_set (Kd.R_over' (Kd.R_alloc h _) hty (by decide) hgrow) hv1 (by decide) 0 _) (he1.other (by omega) _) (by decide) 0 _
    have hrow2 : Kd.R hdK 22 W1 Wl.heap.size (fun _ => True) (.slice (some ⟨g', 0, none⟩) (pre.length + 1) cap') ((pre ++ [(p, d, Value.slice Ax d.length cx, N)]).map hdY) := by
      refine Kd.R_of_own (h1 := fun _ => rfl) ?_ (fun _ _ => trivial)
      rw [List.map_append, List.length_append, List.length_map]
      have e4 : encs (fun x : Option Addr × Nat × Nat => Value.slice x.1 x.2.1 x.2.2) (pre.map hdY ++ [(p, d, Value.slice Ax d.length cx, N)].map hdY) = encs (fun x : Option Addr × Nat × Nat => Value.slice x.1 x.2.1 x.2.2) (pre.map hdY) ++ [.slice Ax d.length cx] := by simp [encs, hdY]
      rw [e4]
      exact hown'
    refine ⟨KeepsOthers.from ((((KeepsOthers.alloc X _).trans (KeepsOthers.of_grownBy hgrow fun j o ej hj => ?_)).trans (KeepsOthers.setCell _ _ _)).trans (KeepsOthers.setCell _ _ _)) _, ((((Chg.below (below_alloc (Below.refl _ _) _)).trans (Chg.grown hgrow (fun k e => .inr (hoff k e)))).trans (Chg.set _ W1 w.heap.size 0 _ (.inl (.inl rfl)))).trans (Chg.set _ _ (w.heap.size + 1) 0 _ (.inl (.inr rfl)))), ?_, ⟨_, (hv1.set (.slice (some ⟨g', 0, none⟩) (pre.length + 1) cap')).other (by omega) _, Kd.R_set (Kd.R_set hrow2 hv1 (by decide) 0 _) (he1.other (by omega) _) (by decide) 0 _⟩, ?_, (HRECS.out.step hstep).snoc (hstep _ _ (R_raise1 HOK.out hN0)) HAP.out, ?_⟩
    · obtain ⟨cells, hc⟩ := hty j ej
      rw [hc] at hj; cases hj; rfl
    · have s1 := (KeepsWalks.setCell W1 ⟨w.heap.size, 0, none⟩ (.slice (some ⟨g', 0, none⟩) (pre.length + 1) cap')).size
      have s2 := (KeepsWalks.setCell (W1.setCell ⟨w.heap.size, 0, none⟩ (.slice (some ⟨g', 0, none⟩) (pre.length + 1) cap')) ⟨w.heap.size + 1, 0, none⟩ (.int .i64 (p : Int))).size
      omega
    · rw [endY_snoc]
      exact (he1.other (by omega) _).set _
    · exact HBW2.out.trans (((((Below.refl w.heap.size X).alloc (by omega) _).grown hgrow (by rw [World.size_alloc]; omega) (fun j ej => by have := hoff j ej; omega)).setCell (p := ⟨w.heap.size, 0, none⟩) (Nat.le_refl _) _).setCell (p := ⟨w.heap.size + 1, 0, none⟩) (Nat.le_succ _) _)
  case done =>
    rintro D ys X hD ⟨hm, hhow⟩ ⟨_, ⟨vr, hv, hrow⟩, he, hrecs, hbw⟩ hK
    obtain ⟨Av, cv, rfl⟩ := Kd.R_slice hrow
    rw [List.length_map] at hv hrow
    generalize hyn : ys.length = yn at hv hrow
    have HYN := Aside0.mk hyn
    clear hyn
    have HM := Aside0.mk hm
    have HV := Aside0.mk hv
    have HROW := Aside0.mk hrow
    have HE := Aside0.mk he
    have HRECS := Aside0.mk hrecs
    have HBW := Aside0.mk hbw
    have HK := Aside0.mk hK
    have HW := Aside0.mk hhow
    have q1 := hv.cell
    have q2 := hv.frozen
    have q3 := he.cell
    have q4 := he.frozen
    have q5 := hhow.cell
    have q6 := hhow.frozen
    clear hm hv hrow he hrecs hbw hK hhow
    generalize hee : endY ys = E at *
    have HEE := Aside0.mk hee
    clear hee
    gi_wp2
    go_wp2
    go_region
    all_goals go_wp2
    have k0 : ∀ (Z : World) (v : Value) (xs : List Int), Boxed Z w.heap.size 33 (.slice Av yn cv) → Kd.R (Kd.int .u8) 5 Z Wl.heap.size (fun _ => True) v xs → Kd.R (Kd.int .u8) 5 (Z.setCell ⟨w.heap.size, 0, none⟩ (.slice Av yn cv)) Wl.heap.size (fun _ => True) v xs := fun Z v xs hb h => Kd.R_set h hb (by decide) 0 _
    have b1 := HV.out.set (.slice Av yn cv)
    have b2 := HE.out.other (show w.heap.size + 1 ≠ w.heap.size by omega) (.slice Av yn cv)
    have b3 := HW.out.other (show w.heap.size + 1 + 1 ≠ w.heap.size by omega) (.slice Av yn cv)
    have d1 := b1.other (show w.heap.size ≠ w.heap.size + 1 by omega) (.int .i64 E)
    have d2 := b2.set (.int .i64 E)
    have d3 := b3.other (show w.heap.size + 1 + 1 ≠ w.heap.size + 1 by omega) (.int .i64 E)
    have e1 := d1.other (show w.heap.size ≠ w.heap.size + 1 + 1 by omega) (.int .i64 (how : Int))
    have e2 := d2.other (show w.heap.size + 1 ≠ w.heap.size + 1 + 1 by omega) (.int .i64 (how : Int))
    have e3 := d3.set (.int .i64 (how : Int))
    have r1 := Kd.R_set (Kd.R_set (Kd.R_set HROW.out HV.out (by decide) 0 (.slice Av yn cv)) b2 (by decide) 0 (.int .i64 E)) d3 (by decide) 0 (.int .i64 (how : Int))
    have r2 := HRECS.out.step (fun v xs h => Kd.R_set (Kd.R_set (Kd.R_set h HV.out (by decide) 0 (.slice Av yn cv)) b2 (by decide) 0 (.int .i64 E)) d3 (by decide) 0 (.int .i64 (how : Int)))
    have g1 : Below w.heap.size w (((X.setCell ⟨w.heap.size, 0, none⟩ (.slice Av yn cv)).setCell ⟨w.heap.size + 1, 0, none⟩ (.int .i64 E)).setCell ⟨w.heap.size + 1 + 1, 0, none⟩ (.int .i64 (how : Int))) :=
      ((HBW.out.setCell (p := ⟨w.heap.size, 0, none⟩) (Nat.le_refl _) _).setCell (p := ⟨w.heap.size + 1, 0, none⟩) (Nat.le_succ _) _).setCell (p := ⟨w.heap.size + 1 + 1, 0, none⟩) (by show w.heap.size ≤ w.heap.size + 1 + 1; omega) _
    have hD3 : (((X.setCell ⟨w.heap.size, 0, none⟩ (.slice Av yn cv)).setCell ⟨w.heap.size + 1, 0, none⟩ (.int .i64 E)).setCell ⟨w.heap.size + 1 + 1, 0, none⟩ (.int .i64 (how : Int))).heap[D]? = some (.deferred (some [])) :=
      (Below.heap_setCell _ _ _ D (by show D ≠ w.heap.size + 1 + 1; omega)).trans ((Below.heap_setCell _ _ _ D (by show D ≠ w.heap.size + 1; omega)).trans ((Below.heap_setCell _ _ _ D (by show D ≠ w.heap.size; omega)).trans HK.out))
    clear b1 b2 b3 d1 d2 d3 k0
    generalize (((X.setCell ⟨w.heap.size, 0, none⟩ (.slice Av yn cv)).setCell ⟨w.heap.size + 1, 0, none⟩ (.int .i64 E)).setCell ⟨w.heap.size + 1 + 1, 0, none⟩ (.int .i64 (how : Int))) = Z at *
    have hDz : Z.drew.heap[D]? = some (.deferred (some [])) := hD3
    refine ⟨by simp, .inl ⟨_, _, rfl, run_takeDeferred hDz, ?_⟩⟩
    have gz := grownBy_putObj' Z.drew D (.deferred none)
    have nz : ∀ r, some D = some r → ∃ o : Obj, Z.drew.heap[r]? = some o ∧ o.isCells = false := fun r e => by cases e; exact ⟨_, hDz, rfl⟩
    have bz : ∀ (B : Nat) (tt : TypeId) (u : Value), D ≠ B → Boxed Z B tt u → Boxed (Z.drew.putObj D (.deferred none)) B tt u := fun B tt u hne h => (show Boxed Z.drew B tt u from h).kept gz (fun e => hne (by cases e; rfl))
    refine ⟨_, results_ccct rfl _ _ w.heap.size (w.heap.size + 1) (w.heap.size + 1 + 1) (.slice Av yn cv) (.int .i64 E) (.int .i64 (how : Int)) rfl rfl rfl (bz _ _ _ (by omega) e1).cell (bz _ _ _ (by omega) e2).cell (bz _ _ _ (by omega) e3).cell Tryd.underlying33 Tryd.underlying3 Tryd.underlying3, ?_⟩
    refine ⟨.slice Av yn cv, ys, ?_, HM.out, ?_, ?_, ?_⟩
    · rw [HEE.out]; rfl
    · exact Kd.R_lower (R_others rfl (Kd.R_drew r1) gz nz) (by omega)
    · have r3 := r2.step (fun v xs h => R_others rfl (Kd.R_drew h) gz nz)
      exact ⟨fun i hi => R_raise1 (r3.rows i hi) (by omega), r3.apart⟩
    · exact g1.drew.trans (belowK_b (w := w) (Nat.le_refl _) Z.drew D _ _ (by omega) hDz rfl rfl)
  case stop =>
    rintro D c' pre X _ _ h _
    exact h.elim

end Go.Proofs.YtmpkigambfghgaaDoor.G

/- Contracts typed by hand: journal: All, its iterator by hand -/
namespace Go.Proofs.YtmpkigambfghgaaDoor.G
open Go.RowKit Go.Proofs.YtmpkigambfghgaaDoorW.PrintWords Go.Proofs.YtmpkigambfghgaaDoorW.PrintLast Go.Proofs.YtmpkigambfghgaaDoorW.PrintMore
attribute [local go_sem] max2_int min2_int max_two min_two max_three min_three max_four min_four
set_option linter.unusedVariables false
set_option linter.unusedSimpArgs false

/-! journal: All, its iterator by hand -/
open Go.Shelf
attribute [local go_sem] Oper.semAt_some
def SeqSt3 {α : Type} (n : Nat) (P : Program) (g : Nat) (lb : Array Value) (encs : α → Array Value) (Ok : α → World → Prop) (Nx : α → Nat) (V : Nat → Prop) (S : List α → World → Prop) (Sp : List α → Prop) (w : World) : Prop :=
  ∀ (l : Nat) (J Jx : List α → World → Prop) (W : World), Below w.heap.size w W → W.heap.size = w.heap.size + 2 → l = w.heap.size + 1 → (∀ s A B, J s A → Chg (fun k => k = w.heap.size + 2) A B → J s B) → (∀ s A B, Jx s A → Chg (fun k => k = w.heap.size + 2) A B → Jx s B) →
    (∀ pre x A, J pre A → w.heap.size + 3 ≤ Nx x → w.heap.size + 3 ≤ A.heap.size → Ok x A → Sp (pre ++ [x]) → YieldAt Fence.wide (n - 1) P l (encs x) A fun e B =>
      (e = .returned (.bool true) ∧ J (pre ++ [x]) B ∧ Chg (fun k => V k ∨ k = w.heap.size + 1 ∨ w.heap.size + 3 ≤ k) A B) ∨ (e = .returned (.bool false) ∧ Jx (pre ++ [x]) B ∧ Chg (fun k => V k ∨ k = w.heap.size + 1 ∨ w.heap.size + 3 ≤ k) A B)) →
    J [] W →
    CallsIn Fence.wide n P g (#[.func (.yield l) #[] #[]] ++ lb) W fun e B => (∃ v, e = .returned v) ∧ ((∃ xs, S xs B ∧ J xs B) ∨ (∃ pre, Sp pre ∧ Jx pre B))
theorem range_st3 {α : Type} {n : Nat} {P : Program} {g : Operand} {ps : Array Tmp} {assign body : Code} {Q : Exit → Act → World → Prop} {a : Act} {w : World} (h1 : 1 ≤ n)
    {gf : Nat} {lb : Array Value} (hg : a.eval g = .func (.func gf) #[] lb) (eg : ∀ args w, (callFunc gf args).run P w = .ok (.enter gf args) w)
    {encs : α → Array Value} {Ok : α → World → Prop} {Nx : α → Nat} {V : Nat → Prop} {S : List α → World → Prop} {Sp : List α → Prop} (hps : ∀ x, (encs x).size = ps.size) (hseq : SeqSt3 (n - 1) P gf lb encs Ok Nx V S Sp w)
    (I : List α → World → Prop) (Ix : Code → List α → World → Prop) (hI : OwnFrom w.heap.size I) (hIx : ∀ c, OwnFrom w.heap.size (Ix c)) (hIM : ∀ s A B, I s A → Chg (fun k => k = w.heap.size + 2) A B → I s B) (hIxM : ∀ c s A B, Ix c s A → Chg (fun k => k = w.heap.size + 2) A B → Ix c s B)
    (hOk : OwnFrom w.heap.size Ok) (hS : ∀ xs A l o, S xs A → w.heap.size ≤ l → S xs (A.putObj l o)) (h0 : I [] w) (a₁ : α → Act)
    (hassign : ∀ (l : Nat) (x : α) (A : World) (K : Act → World → Prop), K (a₁ x) A → assign.wpIn (Fence.wide.inRound l) (n - 1 - 1) P (Exit.then K (fun _ _ _ => False)) { tmps := (ps.zip (encs x)).foldl (fun t (p, v) => t.setIfInBounds p v) a.tmps, defers := [] } A)
    (hbody : ∀ (l : Nat) (pre : List α) (x : α) (A : World), w.heap.size ≤ l → w.heap.size + 3 ≤ A.heap.size → I pre A → w.heap.size + 3 ≤ Nx x → Ok x A → Sp (pre ++ [x]) → body.wpIn (Fence.wide.inRound l) (n - 1 - 1) P (postSt w.heap.size (Chg (fun k => V k ∨ w.heap.size + 3 ≤ k)) I Ix (pre ++ [x]) A) (a₁ x) A)
    (hdone : ∀ (D : Nat) (xs : List α) (A : World), w.heap.size ≤ D → S xs A → I xs A → A.heap[D]? = some (.deferred (some [])) → Q .normal { a with defers := { target := .collected D, args := #[] } :: a.defers } A)
    (hstop : ∀ (D : Nat) (c : Code) (pre : List α) (A : World), w.heap.size ≤ D → Sp pre → Ix c pre A → A.heap[D]? = some (.deferred (some [])) → c.wpIn Fence.wide n P Q { a with defers := { target := .collected D, args := #[] } :: a.defers } A) :
    (Code.rangeFunc g ps assign body).wpIn Fence.wide n P Q a w := by
  refine wpIn_rangeFunc fun fn hfn => ?_
  obtain ⟨N, hN⟩ : ∃ N, w.heap.size = N := ⟨_, rfl⟩
  obtain ⟨rc, hrc⟩ : ∃ rc : LoopState → Option Code → Loop, rc = fun st pe => { state := st, pending := pe, fn, tmps := a.tmps, params := ps, assign, body, defers := N } := ⟨_, rfl⟩
  obtain ⟨W1, hW1⟩ : ∃ W1, (w.alloc (.deferred (some []))).alloc (.loop (rc .ready none)) = W1 := ⟨_, rfl⟩
  have eL : W1.heap[N + 1]? = some (.loop (rc .ready none)) := by
    have := World.alloc_heap_new (w.alloc (.deferred (some []))) (.loop (rc .ready none))
    rw [World.size_alloc, hN] at this
    rw [← hW1]; exact this
  have eD : W1.heap[N]? = some (.deferred (some [])) := by
    have := World.alloc_heap_new w (.deferred (some []))
    rw [hN] at this
    rw [← hW1]; exact (Below.heap_alloc _ _ _ (by rw [World.size_alloc]; omega)).trans this
  have eI : I [] W1 := by rw [← hW1]; exact hI.alloc _ (hI.alloc _ h0)
  have eB : Below w.heap.size w W1 := by rw [← hW1]; exact below_alloc (below_alloc (Below.refl _ _) _) _
  rw [hN] at hI hIx hOk hS hIM hIxM hbody hdone hstop
  refine ⟨N + 1, [{ target := .collected N, args := #[] }], W1, { target := .fn (.func gf) lb, args := #[.func (.yield (N + 1)) #[] #[]] }, W1, gf, #[.func (.yield (N + 1)) #[] #[]] ++ lb, W1, ?_, ?_, ?_, ?_, fun _ => h1, ?_⟩
  · rw [← hW1, hrc, ← hN]
    exact run_enterLoop_outer _ _ _ _ _
  · simp only [resolve, hg]
    simp [go_sem]
  · intro f' hf'
    simp [Target.leads] at hf'
    subst hf'
    trivial
  · simp [invoke, go_sem, eg]
  have inM : ∀ k, k < N + 2 → ¬ (k = N + 2) := fun k hk hm => by omega
  have hz1 : W1.heap.size = w.heap.size + 2 := by rw [← hW1, World.size_alloc, World.size_alloc]
  refine (hseq (N + 1) (fun pre A => I pre A ∧ A.heap[N + 1]? = some (.loop (rc .ready none)) ∧ A.heap[N]? = some (.deferred (some [])))
    (fun pre A => ∃ c, Ix c pre A ∧ A.heap[N + 1]? = some (.loop (rc .done (some c))) ∧ A.heap[N]? = some (.deferred (some []))) W1 eB hz1 (by rw [hN]) ?_ ?_ ?_ ⟨eI, eL, eD⟩).mono ?_
  · rintro s A B ⟨h, hl, hd⟩ hc
    rw [hN] at hc
    exact ⟨hIM s A B h hc, (hc.block _ (blk_lt hl) (inM _ (by omega))).trans hl, (hc.block _ (blk_lt hd) (inM _ (by omega))).trans hd⟩
  · rintro s A B ⟨c, h, hl, hd⟩ hc
    rw [hN] at hc
    exact ⟨c, hIxM c s A B h hc, (hc.block _ (blk_lt hl) (inM _ (by omega))).trans hl, (hc.block _ (blk_lt hd) (inM _ (by omega))).trans hd⟩
  · rintro pre x A ⟨hi, hl, hd⟩ hnx hsz hok hsp
    rw [hN] at hsz hnx
    have hy := run_yield (P := P) (args := encs x) hl (by rw [hrc]; exact hps x)
    rw [hrc] at hy
    refine ⟨fn, _, assign, body, hy, roundIn_of_wpIn hfn (hassign _ x A _ ?_)⟩
    clear hy
    refine ⟨_, run_beginRound hl (by rw [hrc]), ?_⟩
    have hl2 : (A.putObj (N + 1) (.loop { rc .ready none with state := .busy })).heap[N + 1]? = some (.loop { rc .ready none with state := .busy }) := World.putObj_heap_same (blk_lt hl)
    have hd2 : (A.putObj (N + 1) (.loop { rc .ready none with state := .busy })).heap[N]? = some (.deferred (some [])) := (World.putObj_heap_other (by omega)).trans hd
    have hc2 : Chg (fun k => V k ∨ k = N + 1 ∨ N + 3 ≤ k) A (A.putObj (N + 1) (.loop { rc .ready none with state := .busy })) := Chg.putObj _ _ _ _ (.inr (.inl rfl))
    have hsz2 : N + 3 ≤ (A.putObj (N + 1) (.loop { rc .ready none with state := .busy })).heap.size := Nat.le_trans hsz hc2.size
    have hi2 := hI.putObj (.loop { rc .ready none with state := .busy }) hi (by omega) hl rfl
    have hok2 := hOk.putObj (.loop { rc .ready none with state := .busy }) hok (by omega) hl rfl
    have hb := hbody (N + 1) pre x _ (by omega) hsz2 hi2 hnx hok2 hsp
    refine wpIn_mono hb ?_
    generalize A.putObj (N + 1) (.loop { rc .ready none with state := .busy }) = A2 at *
    have fin : ∀ (jump : Option Code) (B : World), KeepsFrom N A2 B →
        (Instr.endRound (N + 1) jump).run P B = .ok (.bool jump.isNone) (B.putObj (N + 1) (.loop (rc (if jump.isNone then .ready else .done) jump))) ∧ B.heap[N + 1]? = some (.loop { rc .ready none with state := .busy }) ∧
        (B.putObj (N + 1) (.loop (rc (if jump.isNone then .ready else .done) jump))).heap[N + 1]? = some (.loop (rc (if jump.isNone then .ready else .done) jump)) ∧ (B.putObj (N + 1) (.loop (rc (if jump.isNone then .ready else .done) jump))).heap[N]? = some (.deferred (some [])) := by
      intro jump B hk
      have q1 := hk.same _ _ (by omega) hl2 rfl
      have q2 := hk.same _ _ (Nat.le_refl _) hd2 rfl
      have q3 := run_endRound (P := P) jump q1
      have q4 : B.heap[N + 1]? = some (.loop { rc .ready none with state := .busy }) := q1
      refine ⟨?_, q4, World.putObj_heap_same (blk_lt q1), (World.putObj_heap_other (by omega)).trans q2⟩
      rw [hrc] at q3 ⊢
      exact q3
    rintro e a3 B hp
    cases e with
    | normal =>
      obtain ⟨k1, k2, k3⟩ := hp
      obtain ⟨f1, f2, f3, f4⟩ := fin none B k1
      exact ⟨_, _, f1, .inl ⟨rfl, ⟨hI.putObj _ k3 (by omega) f2 rfl, f3, f4⟩, by rw [hN]; exact (hc2.trans (k2.mono fun k _ h => h.elim .inl (fun h => .inr (.inr h)))).trans (Chg.putObj _ _ _ _ (.inr (.inl rfl)))⟩⟩
    | ret =>
      obtain ⟨k1, k2, k3⟩ := hp
      obtain ⟨f1, f2, f3, f4⟩ := fin (some .ret) B k1
      exact ⟨_, _, f1, .inr ⟨rfl, ⟨.ret, (hIx _).putObj _ k3 (by omega) f2 rfl, f3, f4⟩, by rw [hN]; exact (hc2.trans (k2.mono fun k _ h => h.elim .inl (fun h => .inr (.inr h)))).trans (Chg.putObj _ _ _ _ (.inr (.inl rfl)))⟩⟩
    | exit id =>
      obtain ⟨k1, k2, k3⟩ := hp
      obtain ⟨f1, f2, f3, f4⟩ := fin (some (.exit id)) B k1
      exact ⟨_, _, f1, .inr ⟨rfl, ⟨.exit id, (hIx _).putObj _ k3 (by omega) f2 rfl, f3, f4⟩, by rw [hN]; exact (hc2.trans (k2.mono fun k _ h => h.elim .inl (fun h => .inr (.inr h)))).trans (Chg.putObj _ _ _ _ (.inr (.inl rfl)))⟩⟩
    | goto t =>
      obtain ⟨k1, k2, k3⟩ := hp
      obtain ⟨f1, f2, f3, f4⟩ := fin (some (.goto t)) B k1
      exact ⟨_, _, f1, .inr ⟨rfl, ⟨.goto t, (hIx _).putObj _ k3 (by omega) f2 rfl, f3, f4⟩, by rw [hN]; exact (hc2.trans (k2.mono fun k _ h => h.elim .inl (fun h => .inr (.inr h)))).trans (Chg.putObj _ _ _ _ (.inr (.inl rfl)))⟩⟩
    | panic ch => exact hp.elim
    | outgrown => exact hp.elim
  · rintro e B ⟨⟨v, rfl⟩, (⟨xs, s1, k1, k2, k3⟩ | ⟨pre, s1, c, k1, k2, k3⟩)⟩
    · have q := run_endLoop (P := P) k2 (by rw [hrc]; simp)
      refine ⟨none, _, by rw [hrc] at q; exact q, ?_⟩
      exact hdone _ xs _ (Nat.le_refl _) (hS _ _ _ _ s1 (by omega)) (hI.putObj _ k1 (by omega) k2 rfl) ((World.putObj_heap_other (by omega)).trans k3)
    · have q := run_endLoop (P := P) k2 (by rw [hrc]; simp)
      refine ⟨some c, _, by rw [hrc] at q; exact q, ?_⟩
      exact hstop _ c pre _ (Nat.le_refl _) s1 ((hIx c).putObj _ k1 (by omega) k2 rfl) ((World.putObj_heap_other (by omega)).trans k3)
set_option maxHeartbeats 4000000 in
set_option maxRecDepth 100000 in
theorem clone_calls (g : Nat) (c0 : Nat) (l0 : List Int) (w : World) (hr0 : Kd.C (Kd.int .u8) w (some ⟨g, 0, none⟩) l0.length l0) (hl : l0.length ≤ 140737488355000) :
    Calls Tryd.prog 35 #[.slice (some ⟨g, 0, none⟩) l0.length c0] w fun e w' => ∃ v, e = .returned v ∧ Kd.R (Kd.int .u8) 5 w' w.heap.size (fun _ => True) v l0 ∧ Below w.heap.size w w' := by
  have HR := Aside0.mk hr0
  have HL := Aside0.mk hl
  clear hr0 hl
  have hinfo : (Tryd.prog.info? 5).map (fun i => (i.zero, i.size, i.bytes)) = some (some (.int .u8 0), 1, 1) := by kernel_rfl
  have HI := Aside0.mk hinfo
  clear hinfo
  have hcmp : ∀ (n c : Nat) (X : World), (binOp .eql 22 (.slice (some ⟨g, 0, none⟩) n c) (.slice none 0 0)).run Tryd.prog X = .ok (.bool false) X := by
    intro n c X
    first | rfl | (simp [binOp, go_sem]; done) | (unfold binOp; simp [go_sem, Tryd.underlying22]; done)
  go_enter Tryd.func35, Tryd.ntmps35
  go_wp2_with (first | ((with_reducible refine gate_dst (N := 5) rfl ?_); refine Kd.R_lit (Kd.int .u8) _ 5 ?hg (N := 5) ?hd (xs := ([] : List Int)) (inner := []) (ok := fun _ => True) (okp := fun _ => True) ?hr ?hp (fun _ hk => hk) trivial (Below.refl _ _) (Nat.le_refl _) (by simp) ?_; (case hd => rfl); (case hg => rfl); (case hr => first | (go_simp; done) | (go_simp; rfl)); (case hp => exact (Reps.none _ _)); intro v102 w6 ho7 hb hg_ hnew_; clear hg_ hnew_; have HO1 := Aside0.mk ho7; have HB1 := Aside0.mk hb; clear hb ho7) | ((with_reducible refine gate_builtin (b := .append) (xs := #[.tmp 5, .tmp 6]) rfl ?_); at_builtin; refine Kd.R_append_rows (Kd.int .u8) (w0 := w) w.heap.size rfl (.tmp 5) (.tmp 6) 22 5 (.int .u8 0) 1 rfl Tryd.underlying22 HI.out rfl (by decide) (by omega) v102 [] l0 _ _ _ (fun _ => True) (fun _ => False) rfl rfl ?aO ?aR (fun _ _ h => h) (fun _ h => h.elim) (fun _ _ => trivial) ?aB ?aS ?aL ?_; (case aR => exact (Kd.C_below HR.out HB1.out)); (case aB => exact HB1.out); (case aO => exact HO1.out); (case aS => exact HB1.out.size); (case aL => have := HL.out; simp; omega); intro v105 w8 ho hb hg hat; have HO2 := Aside0.mk ho; have HB2 := Aside0.mk hb; clear ho hb hg hat))
  go_ret
  exact ⟨_, rfl, HO2.out, HB2.out⟩
set_option maxHeartbeats 4000000 in
theorem jall_calls (g : Nat) (c0 : Nat) (bl : Int) (l0 : List Int) (w : World) (hr0 : Kd.C (Kd.int .u8) w (some ⟨g, 0, none⟩) l0.length l0) (hl : l0.length ≤ 140737488355000) :
    Calls Tryd.prog 24 #[.int .i64 bl, .slice (some ⟨g, 0, none⟩) l0.length c0] w fun e w' => ∃ (Bb Bo : Nat) (v : Value), e = .returned (.func (.func 36) #[] #[.pointer (some ⟨Bb, 0, none⟩), .pointer (some ⟨Bo, 0, none⟩)]) ∧ w.heap.size ≤ Bb ∧ w.heap.size ≤ Bo ∧
      Boxed w' Bb 3 (.int .i64 bl) ∧ Boxed w' Bo 22 v ∧ Kd.R (Kd.int .u8) 5 w' w.heap.size (fun _ => True) v l0 ∧ Below w.heap.size w w' := by
  have HR := Aside0.mk hr0
  have HL := Aside0.mk hl
  have HB0 := Aside0.mk (below_alloc (Below.refl w.heap.size w) (.cells #[.int .i64 bl] 3))
  have HX0 := Aside0.mk (World.alloc_heap_new w (.cells #[.int .i64 bl] 3))
  have HSZ := Aside0.mk (World.size_alloc w (.cells #[.int .i64 bl] 3))
  clear hr0 hl
  go_enter Tryd.func24, Tryd.ntmps24
  go_wp2_with fail
  (with_reducible refine (clone_calls g c0 l0 _ (Kd.C_below HR.out HB0.out) HL.out).mono ?_)
  rintro e w1 ⟨v, rfl, ho, hb⟩
  obtain ⟨Av, cv, rfl, _, _⟩ := Kd.R_reads ho
  have HX1 := Aside0.mk (show Boxed w1 w.heap.size 3 (.int .i64 bl) from (hb.block _ (blk_lt HX0.out)).trans HX0.out)
  have HB1 := Aside0.mk (below_step HB0.out hb)
  have HO := Aside0.mk ho
  clear hb ho
  go_wp2
  go_ret
  have h1 : w.heap.size < w1.heap.size := HX1.out.lt
  refine ⟨w.heap.size, w1.heap.size, .slice Av l0.length cv, rfl, Nat.le_refl _, Nat.le_of_lt h1, HX1.out.alloc _, Boxed.new w1 22 _, ?_, below_alloc HB1.out _⟩
  obtain ⟨h0, inner, ho, hr⟩ := Kd.R_lower HO.out (base' := w.heap.size) (by have := HSZ.out; omega)
  exact ⟨h0, inner, own_alloc ho _, hr.imp_ (fun _ _ hp => hp)⟩
set_option maxHeartbeats 4000000 in
set_option maxRecDepth 100000 in
theorem jall1_seq (n Bb Bo blk : Nat) (A : Option Addr) (c : Nat) (f : List Int) (wf Wl : World) (V : Nat → Prop) (outs : List (Nat × List Int)) (how : Nat)
    (h1 : 32 ≤ blk) (h2 : blk ≤ 32768) (hB : Boxed Wl Bb 3 (.int .i64 (blk : Int))) (hO : Boxed Wl Bo 22 (.slice A f.length c)) (hC : Kd.C (Kd.int .u8) wf A f.length f) (hc : f.length ≤ c) (hb : Byt f) (hl : f.length ≤ 1099511627776) (hwf : Below wf.heap.size wf Wl) (hT : TabAt wf)
    (hV : ∀ k, V k → wf.heap.size ≤ k ∧ k < Wl.heap.size) (hrd : Reads blk f 0 [] false outs how) :
    SeqSt3 n Tryd.prog 36 #[.pointer (some ⟨Bb, 0, none⟩), .pointer (some ⟨Bo, 0, none⟩)] encY OkY (fun x => x.2.2.2) V (fun xs X => xs.map outY = outs) (fun pre => pre.map outY <+: outs) Wl := by
  intro l J Jx W hW hWz hlz hJ hJx hY h0
  have hcell := (bx_below hB hW).cell
  have hcell2 := (bx_below hO hW).cell
  have HVV := Aside0.mk (journal_isBlock.calls (blk : Int) true W (by unfold journal_isBlock.f; rw [if_pos (by omega)]; simp; omega))
  refine callsIn_wide.2 ?_
  show Calls Tryd.prog 36 #[.func (.yield l) #[] #[], .pointer (some ⟨Bb, 0, none⟩), .pointer (some ⟨Bo, 0, none⟩)] W _
  have HG := Aside0.mk (fun (w1 W2 : World) (hd : Drawn0 W w1) (e2 : W2 = w1.alloc (.cells #[.int .i64 (blk : Int), .slice A f.length c, .int .i64 0, .slice none 0 0, .bool false] 75)) => by
    have hs1 : w1.heap.size = W.heap.size := by obtain ⟨nd, e⟩ := hd; rw [e]; simp
    have hz2 : W2.heap.size = W.heap.size + 1 := by rw [e2, World.size_alloc, hs1]
    have hb2 : Below W.heap.size W W2 := by rw [e2]; exact below_step hd.below (below_alloc (Below.refl _ _) _)
    have hR : RdAt W2 W.heap.size blk A f.length c 0 (.slice none 0 0) false := by
      have := World.alloc_heap_new w1 (.cells #[.int .i64 (blk : Int), .slice A f.length c, .int .i64 0, .slice none 0 0, .bool false] 75)
      rw [hs1] at this
      rw [e2]; exact this
    exact goOn_calls l (n - 1) W.heap.size blk (W.heap.size + 1) A c f wf W2 (fun k => k = Wl.heap.size + 2) (fun k => V k ∨ k = Wl.heap.size + 1) (fun s X => J s X ∧ W.heap.size + 1 ≤ X.heap.size) Jx outs how h1 h2 hR hC hc hb hl ⟨hb2.os.trans (hW.os.trans hwf.os), hb2.tape.trans (hW.tape.trans hwf.tape), hb2.output.trans (hW.output.trans hwf.output), Nat.le_trans hwf.size (Nat.le_trans hW.size hb2.size), fun k hk => (hb2.block k (by have := hwf.size; omega)).trans ((hW.block k (Nat.lt_of_lt_of_le hk hwf.size)).trans (hwf.block k hk))⟩ hT (by show W.heap.size = _; omega) (by have := hwf.size; omega)
      (by rintro k (h | h)
          · have := hV k h; omega
          · have := hwf.size; omega)
      (by omega) (by omega) (fun s X Y h hc => ⟨hJ s X Y h.1 hc, Nat.le_trans h.2 hc.size⟩)
      (by
        rintro pre x X ⟨hj, hjz⟩ ⟨Y, ⟨_, hyz⟩, hyn⟩ hbx hok hsp
        refine (hY pre x X hj (show Wl.heap.size + 3 ≤ x.2.2.2 by omega) (by omega) hok hsp).mono ?_
        rintro e B (⟨rfl, hj2, hc2⟩ | ⟨rfl, hj2, hc2⟩)
        · exact .inl ⟨rfl, ⟨hj2, Nat.le_trans hjz hc2.size⟩, hc2.mono fun k _ h => by rcases h with h | h | h; exact .inl (.inl h); exact .inl (.inr h); exact .inr (by omega)⟩
        · exact .inr ⟨rfl, hj2, hc2.mono fun k _ h => by rcases h with h | h | h; exact .inl (.inl h); exact .inl (.inr h); exact .inr (by omega)⟩)
      ⟨hJ _ _ _ h0 (Chg.below hb2), by omega⟩ hrd)
  clear hJ hJx hB hO hC hc hb hl hwf hT hV hrd hW hY h0 hWz hlz
  go_enter Tryd.func36, Tryd.ntmps36
  go_wp2_with fail
  (with_reducible refine HVV.out.mono ?_)
  rintro e w1 ⟨rfl, hd⟩
  have HS1 := Aside0.mk (show w1.heap.size = W.heap.size by obtain ⟨nd, e⟩ := hd; rw [e]; simp)
  have q1 : w1.cell? ⟨Bb, 0, none⟩ = some (.int .i64 (blk : Int)) := by obtain ⟨nd, e⟩ := hd; rw [e]; exact hcell
  have q2 : w1.cell? ⟨Bo, 0, none⟩ = some (.slice A f.length c) := by obtain ⟨nd, e⟩ := hd; rw [e]; exact hcell2
  have HG1 := Aside0.mk (HG.out w1 _ hd rfl)
  clear hd hcell hcell2 HG HVV
  go_wp2_with fail
  rw [HS1.out]
  (with_reducible refine HG1.out.mono ?_)
  rintro e w2 ⟨hc, hres⟩
  clear hc
  rcases hres with ⟨xs, rfl, hm, hj⟩ | ⟨pre, rfl, hm, hj⟩
  · have HM := Aside0.mk hm
    have HJ1 := Aside0.mk hj.1
    clear hm hj
    go_wp2
    go_end0
    exact ⟨⟨_, rfl⟩, .inl ⟨xs, HM.out, HJ1.out⟩⟩
  · have HM := Aside0.mk hm
    have HJ1 := Aside0.mk hj
    clear hm hj
    go_wp2
    go_end0
    exact ⟨⟨_, rfl⟩, .inr ⟨pre, HM.out, HJ1.out⟩⟩
set_option maxHeartbeats 4000000 in
set_option maxRecDepth 100000 in
theorem jall1_none (n Bb Bo : Nat) (bl : Int) (Wl : World) (V : Nat → Prop) (hbad : ¬ (32 ≤ bl ∧ bl ≤ 32768)) (hB : Boxed Wl Bb 3 (.int .i64 bl)) :
    SeqSt3 n Tryd.prog 36 #[.pointer (some ⟨Bb, 0, none⟩), .pointer (some ⟨Bo, 0, none⟩)] encY OkY (fun x => x.2.2.2) V (fun xs X => xs = []) (fun pre => False) Wl := by
  intro l J Jx W hW hWz hlz hJ hJx hY h0
  have hcell := (bx_below hB hW).cell
  have HVV := Aside0.mk (journal_isBlock.calls bl false W (by unfold journal_isBlock.f; by_cases h : 32 ≤ bl; rw [if_pos h]; simp; omega; rw [if_neg h]))
  have HJ := Aside0.mk (fun w1 (hd : Drawn0 W w1) => hJ _ _ _ h0 (Chg.below hd.below))
  refine callsIn_wide.2 ?_
  show Calls Tryd.prog 36 #[.func (.yield l) #[] #[], .pointer (some ⟨Bb, 0, none⟩), .pointer (some ⟨Bo, 0, none⟩)] W _
  clear hJ hJx hB hW hY h0 hWz hlz hbad
  go_enter Tryd.func36, Tryd.ntmps36
  go_wp2_with fail
  (with_reducible refine HVV.out.mono ?_)
  rintro e w1 ⟨rfl, hd⟩
  have HJ1 := Aside0.mk (HJ.out w1 hd)
  clear hd hcell HVV HJ
  go_wp2
  go_end0
  exact ⟨⟨_, rfl⟩, .inl ⟨[], rfl, HJ1.out⟩⟩

end Go.Proofs.YtmpkigambfghgaaDoor.G

/- Contracts typed by hand: journal: Read of a block that may not be -/
namespace Go.Proofs.YtmpkigambfghgaaDoor.G
open Go.RowKit Go.Proofs.YtmpkigambfghgaaDoorW.PrintWords Go.Proofs.YtmpkigambfghgaaDoorW.PrintLast Go.Proofs.YtmpkigambfghgaaDoorW.PrintMore
attribute [local go_sem] max2_int min2_int max_two min_two max_three min_three max_four min_four
set_option linter.unusedVariables false
set_option linter.unusedSimpArgs false

/-! journal: Read of a block that may not be -/
open Go.Shelf
attribute [local go_sem] Oper.semAt_some
set_option maxHeartbeats 4000000 in
set_option maxRecDepth 100000 in
theorem read_none (bl : Int) (A : Option Addr) (n c : Nat) (w : World) (hbad : ¬ (32 ≤ bl ∧ bl ≤ 32768)) :
    Calls Tryd.prog 23 #[.int .i64 bl, .slice A n c] w fun e w' => e = .returned (.tuple #[.slice none 0 0, .int .i64 0, .int .i64 0, .int .i64 2]) ∧ Below w.heap.size w w' := by
  have HVV := Aside0.mk (journal_isBlock.calls bl false (((w.alloc (.cells #[.slice none 0 0] 33)).alloc (.cells #[.int .i64 0] 3)).alloc (.cells #[.int .i64 0] 3)) (by unfold journal_isBlock.f; by_cases h : 32 ≤ bl; rw [if_pos h]; simp; omega; rw [if_neg h]))
  clear hbad
  refine (callsIn_wide (n := 5)).1 ?_
  refine callsIn_of_wp Tryd.func23 rfl trivial ?_ rfl
  simp only [Tryd.ntmps23, List.size_toArray, List.length_cons, List.length_nil, Nat.reduceAdd, Nat.reduceSub, Array.replicate_succ, Array.replicate_zero, List.push_toArray, List.append_toArray, List.nil_append, List.cons_append]
  refine wpIn_wide.2 ?_
  go_wp2_with fail
  (with_reducible refine HVV.out.mono ?_)
  rintro e w1 ⟨rfl, hd⟩
  have HB1 := Aside0.mk (show Below w.heap.size w w1 from below_step (below_alloc (below_alloc (below_alloc (Below.refl _ _) _) _) _) hd.below)
  have hx0 := bx_below (((Boxed.new w 33 (.slice none 0 0)).alloc (.cells #[.int .i64 0] 3)).alloc (.cells #[.int .i64 0] 3)) hd.below
  have hx1 := bx_below ((Boxed.new (w.alloc (.cells #[.slice none 0 0] 33)) 3 (.int .i64 0)).alloc (.cells #[.int .i64 0] 3)) hd.below
  have hx2 := bx_below (Boxed.new ((w.alloc (.cells #[.slice none 0 0] 33)).alloc (.cells #[.int .i64 0] 3)) 3 (.int .i64 0)) hd.below
  rw [World.size_alloc] at hx1
  rw [World.size_alloc, World.size_alloc] at hx2
  clear hd
  have HX0 := Aside0.mk hx0
  have HX1 := Aside0.mk hx1
  have HX2 := Aside0.mk hx2
  have n01 : w.heap.size ≠ w.heap.size + 1 := by omega
  have n02 : w.heap.size ≠ w.heap.size + 1 + 1 := by omega
  have n12 : w.heap.size + 1 ≠ w.heap.size + 1 + 1 := by omega
  have f0 := hx0.frozen
  have f1 : ∀ v, (w1.setCell ⟨w.heap.size, 0, none⟩ v).frozen? ⟨w.heap.size + 1, 0, none⟩ = false := fun v => (hx1.other n01.symm v).frozen
  have f2 : ∀ v u, ((w1.setCell ⟨w.heap.size, 0, none⟩ v).setCell ⟨w.heap.size + 1, 0, none⟩ u).frozen? ⟨w.heap.size + 1 + 1, 0, none⟩ = false := fun v u => ((hx2.other n02.symm v).other n12.symm u).frozen
  have c0 := hx0.cell
  have c1 : ∀ v, (w1.setCell ⟨w.heap.size, 0, none⟩ v).cell? ⟨w.heap.size + 1, 0, none⟩ = some (.int .i64 0) := fun v => (hx1.other n01.symm v).cell
  have c2 : ∀ v u, ((w1.setCell ⟨w.heap.size, 0, none⟩ v).setCell ⟨w.heap.size + 1, 0, none⟩ u).cell? ⟨w.heap.size + 1 + 1, 0, none⟩ = some (.int .i64 0) := fun v u => ((hx2.other n02.symm v).other n12.symm u).cell
  clear hx0 hx1 hx2
  go_wp2
  have e0 := ((HX0.out.set (.slice none 0 0)).other n01 (.int .i64 0)).other n02 (.int .i64 0)
  have e1 := ((HX1.out.other n01.symm (.slice none 0 0)).set (.int .i64 0)).other n12 (.int .i64 0)
  have e2 := ((HX2.out.other n02.symm (.slice none 0 0)).other n12.symm (.int .i64 0)).set (.int .i64 0)
  refine bodyPost_ret (results_ccct rfl _ _ w.heap.size (w.heap.size + 1) (w.heap.size + 1 + 1) (.slice none 0 0) (.int .i64 0) (.int .i64 0) rfl rfl rfl e0.cell e1.cell e2.cell Tryd.underlying33 Tryd.underlying3 Tryd.underlying3) rfl ?_
  exact ⟨rfl, ((HB1.out.setCell (p := ⟨w.heap.size, 0, none⟩) (Nat.le_refl _) _).setCell (p := ⟨w.heap.size + 1, 0, none⟩) (Nat.le_succ _) _).setCell (p := ⟨w.heap.size + 1 + 1, 0, none⟩) (by show w.heap.size ≤ w.heap.size + 1 + 1; omega) _⟩

end Go.Proofs.YtmpkigambfghgaaDoor.G

/- Contracts typed by hand: morainelaw07.lent makes a copy with a mark behind its end; morainelaw07.kept tells that such a copy stands as it was. -/
namespace Go.Proofs.YtmpkigambfghgaaDoor.G
open Go.RowKit Go.Proofs.YtmpkigambfghgaaDoorW.PrintWords Go.Proofs.YtmpkigambfghgaaDoorW.PrintLast Go.Proofs.YtmpkigambfghgaaDoorW.PrintMore
attribute [local go_sem] max2_int min2_int max_two min_two max_three min_three max_four min_four
set_option linter.unusedVariables false
set_option linter.unusedSimpArgs false

/-! morainelaw07.lent makes a copy with a mark behind its end; morainelaw07.kept tells that such a copy stands as it was. -/

theorem C_prefix {w : World} {A : Option Addr} {xs ys : List Int} (h : Kd.C (Kd.int .u8) w A (xs.length + ys.length) (xs ++ ys)) : Kd.C (Kd.int .u8) w A xs.length xs := by
  rw [← List.length_append] at h
  have h1 := Kd.C_take (m := xs.length) h (by simp)
  rwa [List.take_left] at h1
theorem lent_len (l : List Int) : (l ++ [(90 : Int)]).length = l.length + 1 := by simp
theorem lent_rd (l : List Int) : rd (l ++ [(90 : Int)]) (l.length : Int) = 90 := by simp [rd, List.getD_eq_getElem?_getD]
set_option maxHeartbeats 2000000 in
theorem morainelaw07_lent.calls (A0 : Option Addr) (c0 : Nat) (l0 : List Int) (w : World) (hr0 : Kd.C (Kd.int .u8) w A0 l0.length l0) (hc0 : l0.length ≤ c0) (hl : l0.length ≤ 140737488355000) :
    Calls Tryd.prog 18 #[.slice A0 l0.length c0] w fun e w' => ∃ (A : Option Addr) (c : Nat), e = .returned (.slice A l0.length c) ∧ Kd.R (Kd.int .u8) 5 w' w.heap.size (fun _ => True) (.slice A (l0.length + 1) c) (l0 ++ [90]) ∧ Below w.heap.size w w' := by
  have HR := Aside0.mk hr0
  have HC := Aside0.mk hc0
  clear hr0 hc0
  have HL := Aside0.mk hl
  have hinfo : (Tryd.prog.info? 5).map (fun i => (i.zero, i.size, i.bytes)) = some (some (.int .u8 0), 1, 1) := by kernel_rfl
  have HI := Aside0.mk hinfo
  clear hinfo
  have HB := Aside0.mk (Below.refl w.heap.size w)
  go_enter Tryd.func18, Tryd.ntmps18
  go_wp2_with (first | ((with_reducible refine gate_dst (N := 3) rfl ?_); refine Kd.R_lit (Kd.int .u8) _ 5 ?hg (N := 3) ?hd (xs := ([] : List Int)) (inner := []) (ok := fun _ => True) (okp := fun _ => True) ?hr ?hp (fun _ hk => hk) trivial (Below.refl _ _) (Nat.le_refl _) (by simp) ?_; (case hd => rfl); (case hg => rfl); (case hr => first | (go_simp; done) | (go_simp; rfl)); (case hp => exact (Reps.none _ _)); intro v102 w6 ho7 hb hg_ hnew_; clear hg_ hnew_; have HO1 := Aside0.mk ho7; have HB1 := Aside0.mk hb; clear hb ho7) | ((with_reducible refine gate_builtin (b := .append) (xs := #[.tmp 3, .tmp 4]) rfl ?_); at_builtin; refine Kd.R_append_rows (Kd.int .u8) (w0 := w) w.heap.size rfl (.tmp 3) (.tmp 4) 22 5 (.int .u8 0) 1 rfl Tryd.underlying22 HI.out rfl (by decide) (by omega) v102 [] l0 _ _ _ (fun _ => True) (fun _ => False) rfl rfl ?aO ?aR (fun _ _ h => h) (fun _ h => h.elim) (fun _ _ => trivial) ?aB ?aS ?aL ?_; (case aR => exact (Kd.C_below HR.out HB1.out)); (case aB => exact HB1.out); (case aO => exact HO1.out); (case aS => exact HB1.out.size); (case aL => have := HL.out; simp; omega); intro v105 w8 ho hb hg hat; have HO2 := Aside0.mk ho; have HB2 := Aside0.mk hb; clear ho hb hg hat) | ((with_reducible refine gate_builtin (b := .append) (xs := #[.tmp 5, .tmp 6]) rfl ?_); at_builtin; refine Kd.R_append (Kd.int .u8) (w0 := w) w.heap.size rfl (.tmp 5) (.tmp 6) 22 5 (.int .u8 0) 1 rfl Tryd.underlying22 HI.out rfl (by decide) (by omega) v105 ([] ++ l0) 90 [.int .u8 90] (fun _ => True) (fun _ => False) rfl rfl ?aP (fun _ hk => hk.elim) (fun _ _ => trivial) ?aO ?aB ?aS ?aL ?_; (case aP => exact rfl); (case aB => exact HB2.out); (case aO => exact HO2.out); (case aS => exact HB2.out.size); (case aL => have := HL.out; simp; omega); intro v108 w9 ho hb hg hat; have ho2 : Kd.R (Kd.int .u8) 5 w9 w.heap.size (fun _ => True) v108 (l0 ++ [90]) := ho; have HB3 := Aside0.mk hb; clear ho hb hg hat; obtain ⟨Ao10, co10, eo10⟩ := Kd.R_slice ho2; subst eo10; rw [lent_len] at ho2; have HO3 := Aside0.mk ho2; have hcc : l0.length + 1 ≤ co10 := (Kd.R_reads' ho2).2.1; clear ho2; obtain ⟨i011, hi011, _, hsz11, _⟩ := info_parts HI.out; rw [lent_len]; have hcut11 := cut_to (P := Tryd.prog) 22 5 .i64 Tryd.underlying22 hi011 Ao10 (l0.length + 1) co10 (l0.length : Int) (by omega) (by omega) hcc; rw [Int.toNat_natCast] at hcut11; clear hi011 hsz11))
  go_ret
  exact ⟨_, _, rfl, HO3.out, HB3.out⟩
set_option maxHeartbeats 2000000 in
theorem morainelaw07_kept.calls (A0 : Option Addr) (c0 : Nat) (l0 : List Int) (A1 : Option Addr) (c1 : Nat) (w : World) (hr0 : Kd.C (Kd.int .u8) w A0 (l0.length + 1) (l0 ++ [90])) (hc0 : l0.length + 1 ≤ c0) (hr1 : Kd.C (Kd.int .u8) w A1 l0.length l0) (hl : l0.length ≤ 140737488355000) :
    Calls Tryd.prog 20 #[.slice A0 l0.length c0, .slice A1 l0.length c1] w fun e w' => e = .returned (.bool true) ∧ Drawn0 w w' := by
  have hcv0 := Kd.C_string (P := Tryd.prog) (w := w) (A := A0) (c := c0) Tryd.underlying22 Tryd.underlying5 Tryd.underlying9 (C_prefix (ys := [90]) hr0)
  have hcv1 := Kd.C_string (P := Tryd.prog) (w := w) (A := A1) (c := c1) Tryd.underlying22 Tryd.underlying5 Tryd.underlying9 hr1
  obtain ⟨ad, e1, hx⟩ := Kd.at_int hr0 (l0.length : Int) (by omega) (by omega)
  rw [lent_rd, Int.toNat_natCast] at hx
  cases e1
  clear hr0 hr1
  generalize hn : l0.length = n at *
  clear hn
  go_enter Tryd.func20, Tryd.ntmps20
  go_wp2
  go_ret
  exact ⟨by simp, Drawn0.refl _⟩


end Go.Proofs.YtmpkigambfghgaaDoor.G

/- Printed by the session's program over the kit's print, out of the translation: functions as plain Lean functions, and the proofs that the calls come to them. -/
namespace Go.Proofs.YtmpkigambfghgaaDoor.G
open Go.RowKit Go.Proofs.YtmpkigambfghgaaDoorW.PrintWords Go.Proofs.YtmpkigambfghgaaDoorW.PrintLast Go.Proofs.YtmpkigambfghgaaDoorW.PrintMore
attribute [local go_sem] max2_int min2_int max_two min_two max_three min_three max_four min_four   -- for this text's walks alone
set_option linter.unusedVariables false
set_option linter.unusedSimpArgs false

/-! ### moraineref07_Block: function 14 -/
def moraineref07_Block.f (a0 : Int) : Option (Bool) := if a0 ≥ 32 then (some (decide (a0 ≤ 32768))) else (some false)
set_option maxHeartbeats 8000000 in
set_option maxRecDepth 100000 in
theorem moraineref07_Block.calls (a0 : Int) (r : Bool) (w : World) (h : moraineref07_Block.f a0 = some r) :
    Calls Tryd.prog 14 #[.int .i64 a0] w fun e w' => e = .returned (.bool r) ∧ Drawn0 w w' := by
  have H : (if a0 ≥ 32 then (some (decide (a0 ≤ 32768))) else (some false)) = some r := h
  clear h
  by_cases c2 : a0 ≥ 32
  · rw [if_pos c2] at H
    have c2b0 : decide (32 ≤ a0) = true := decide_eq_true c2
    clear c2
    obtain rfl := Option.some.inj H
    go_enter Tryd.func14, Tryd.ntmps14
    go_wp2
    go_ret
    exact ⟨by first | rfl | (simp; done) | (simp [*]; done), by repeat (first | exact Drawn0.refl _ | apply Drawn0.step)⟩
  · rw [if_neg c2] at H
    have c2b0 : decide (32 ≤ a0) = false := decide_eq_false c2
    clear c2
    obtain rfl := Option.some.inj H
    go_enter Tryd.func14, Tryd.ntmps14
    go_wp2
    go_ret
    exact ⟨by first | rfl | (simp; done) | (simp [*]; done), by repeat (first | exact Drawn0.refl _ | apply Drawn0.step)⟩

end Go.Proofs.YtmpkigambfghgaaDoor.G

/- Printed by the session's program over the kit's print, out of the translation: functions as plain Lean functions, and the proofs that the calls come to them. -/
namespace Go.Proofs.YtmpkigambfghgaaDoor.G
open Go.RowKit Go.Proofs.YtmpkigambfghgaaDoorW.PrintWords Go.Proofs.YtmpkigambfghgaaDoorW.PrintLast Go.Proofs.YtmpkigambfghgaaDoorW.PrintMore
attribute [local go_sem] max2_int min2_int max_two min_two max_three min_three max_four min_four   -- for this text's walks alone
set_option linter.unusedVariables false
set_option linter.unusedSimpArgs false

/-! ### morainelaw07_names: function 15 -/
def morainelaw07_names.f  : Option (Bool) := some true
set_option maxHeartbeats 8000000 in
set_option maxRecDepth 100000 in
theorem morainelaw07_names.calls  (r : Bool) (w : World) (h : morainelaw07_names.f  = some r) :
    Calls Tryd.prog 15 #[] w fun e w' => e = .returned (.bool r) ∧ Drawn0 w w' := by
  have H : (some true) = some r := h
  clear h
  obtain rfl := Option.some.inj H
  go_enter Tryd.func15, Tryd.ntmps15
  go_wp2
  go_ret
  exact ⟨by first | rfl | (simp; done) | (simp [*]; done), by repeat (first | exact Drawn0.refl _ | apply Drawn0.step)⟩

end Go.Proofs.YtmpkigambfghgaaDoor.G

/- Contracts typed by hand: the law JournalReads: a block that may not be -/
namespace Go.Proofs.YtmpkigambfghgaaDoor.G
open Go.RowKit Go.Proofs.YtmpkigambfghgaaDoorW.PrintWords Go.Proofs.YtmpkigambfghgaaDoorW.PrintLast Go.Proofs.YtmpkigambfghgaaDoorW.PrintMore
attribute [local go_sem] max2_int min2_int max_two min_two max_three min_three max_four min_four
set_option linter.unusedVariables false
set_option linter.unusedSimpArgs false

/-! the law JournalReads: a block that may not be -/
open Go.Shelf
attribute [local go_sem] Oper.semAt_some
theorem results_c {P : Program} {fn : Func} {p : Tmp} {ty : TypeId} (h : fn.results = #[.cell p ty]) (tmps : Array Value) (w : World) (g : Nat) (x : Value)
    (hp : tmps.getD p undef = .pointer (some ⟨g, 0, none⟩)) (hg : w.cell? ⟨g, 0, none⟩ = some x) (hu : P.underlying ty = some .bool) :
    (results fn tmps).run P w = .ok x w := by
  have hp' : tmps[p]?.getD undef = .pointer (some ⟨g, 0, none⟩) := by simpa using hp
  simp [results, h, hp', asAddr, loadVar, isAgg, run_underlying hu, hg, go_sem]
theorem blk_far {X : World} {g b e t : Nat} {cells cs : Array Value} (hb : X.heap[b]? = some (.cells cs t (0, 0))) (hg : X.heap[g]? = some (.cells cells e (0, 0))) (hne : t ≠ e) (j : Nat) (v : Value) : (X.setCell ⟨g, j, none⟩ v).heap[b]? = some (.cells cs t (0, 0)) :=
  (Below.heap_setCell X ⟨g, j, none⟩ v b (fun h => by
    have h' : b = g := h
    rw [h', hg] at hb
    injection hb with hb
    injection hb with _ h2 _
    exact hne h2.symm)).trans hb
theorem dfr_far {X : World} {g b e j : Nat} {v : Value} {cells : Array Value} {d : Option (List Deferred)} (hb : X.heap[b]? = some (.deferred d)) (hg : X.heap[g]? = some (.cells cells e (0, 0))) : (X.setCell ⟨g, j, none⟩ v).heap[b]? = some (.deferred d) :=
  (Below.heap_setCell X ⟨g, j, none⟩ v b (fun h => by
    have h' : b = g := h
    rw [h', hg] at hb
    cases hb)).trans hb
theorem chg_below {W X Y : World} (h : Below W.heap.size W X) (hc : Chg (fun k => k = W.heap.size + 2) X Y) : Below W.heap.size W Y := below_chg h hc (fun k e => by have e' : k = W.heap.size + 2 := e; omega)
set_option maxHeartbeats 8000000 in
set_option maxRecDepth 100000 in
theorem jreads_bad (x0 : Int) (A0 : Option Addr) (c0 : Nat) (l0 : List Int) (stop : Int) (w : World) (hbad : ¬ (32 ≤ x0 ∧ x0 ≤ 32768)) (hr0 : Kd.C (Kd.int .u8) w A0 l0.length l0) (hc0 : l0.length ≤ c0) (hl : l0.length ≤ 1048576) :
    Calls Tryd.prog 6 #[.int .i64 x0, .slice A0 l0.length c0, .int .i64 stop] w fun e w' => e = .returned (.bool true) ∧ Below w.heap.size w w' := by
  have HR := Aside0.mk hr0
  have HC := Aside0.mk hc0
  have HLN2 := Aside0.mk (show l0.length ≤ 140737488355000 by omega)
  have HBAD := Aside0.mk hbad
  have HBK := Aside0.mk (fun X => moraineref07_Block.calls x0 false X (by unfold moraineref07_Block.f; by_cases h : 32 ≤ x0; rw [if_pos h]; simp; omega; rw [if_neg h]))
  obtain ⟨W0, hW0⟩ : ∃ W0, (w.alloc (.cells #[.int .i64 stop] 3)).alloc (.cells #[.bool false] 4) = W0 := ⟨_, rfl⟩
  have hx1 : Boxed W0 (w.heap.size + 1) 4 (.bool false) := by
    have := Boxed.new (w.alloc (.cells #[.int .i64 stop] 3)) 4 (.bool false)
    rw [World.size_alloc] at this
    rw [← hW0]; exact this
  have HB0 := Aside0.mk (show Below w.heap.size w W0 by rw [← hW0]; exact below_alloc (below_alloc (Below.refl _ _) _) _)
  have HT0 := Aside0.mk hx1
  have HW0 := Aside0.mk hW0
  clear hr0 hc0 hl hbad hx1 hW0
  refine (callsIn_wide (n := 6)).1 ?_
  refine callsIn_of_wp_marks Tryd.func6 rfl trivial ?_ rfl
  simp only [Tryd.ntmps6, List.size_toArray, List.length_cons, List.length_nil, Nat.reduceAdd, Nat.reduceSub, Array.replicate_succ, Array.replicate_zero, List.push_toArray, List.append_toArray, List.nil_append, List.cons_append]
  refine wpIn_wide.2 ?_
  go_wp2_with fail
  rw [HW0.out]
  (with_reducible refine (morainelaw07_lent.calls A0 c0 l0 _ (Kd.C_below HR.out HB0.out) HC.out HLN2.out).mono ?_)
  rintro e w1 ⟨Ai, ci, rfl, ho, hb⟩
  obtain ⟨gi, ci2, egi, _⟩ := Kd.R_form ho (by simp)
  injection egi with egi1 egi2 egi3
  subst egi1
  subst egi3
  clear egi2
  have HI := Aside0.mk (show Kd.C (Kd.int .u8) w1 (some ⟨gi, 0, none⟩) l0.length l0 from C_prefix (ys := [90]) (by simpa using (Kd.R_reads' ho).2.2))
  have HB1 := Aside0.mk (below_step HB0.out hb)
  have HT1 := Aside0.mk (show Boxed w1 (w.heap.size + 1) 4 (.bool false) from blk_below HT0.out hb)
  clear ho hb
  go_wp2_with fail
  (with_reducible refine (read_none x0 _ _ _ _ HBAD.out).mono ?_)
  rintro e w2 ⟨rfl, hb⟩
  have HI2 := Aside0.mk (Kd.C_below HI.out hb)
  have HB2 := Aside0.mk (below_step HB1.out hb)
  have HT2 := Aside0.mk (show Boxed w2 (w.heap.size + 1) 4 (.bool false) from blk_below HT1.out hb)
  clear hb HI HT1
  go_wp2_with fail
  (with_reducible refine (read_none x0 _ _ _ _ HBAD.out).mono ?_)
  rintro e w3 ⟨rfl, hb⟩
  have HI3 := Aside0.mk (Kd.C_below HI2.out hb)
  have HB3 := Aside0.mk (below_step HB2.out hb)
  have HT3 := Aside0.mk (show Boxed w3 (w.heap.size + 1) 4 (.bool false) from blk_below HT2.out hb)
  clear hb HI2 HT2
  go_wp2_with fail
  (with_reducible refine (HBK.out _).mono ?_)
  rintro e w4 ⟨rfl, hd⟩
  have HI4 := Aside0.mk (Kd.C_below HI3.out hd.below)
  have HB4 := Aside0.mk (below_step HB3.out hd.below)
  have HT4 := Aside0.mk (show Boxed w4 (w.heap.size + 1) 4 (.bool false) from blk_below HT3.out hd.below)
  clear hd HI3 HT3
  go_wp2_with fail
  (with_reducible refine (jall_calls gi ci x0 l0 _ HI4.out HLN2.out).mono ?_)
  rintro e w5 ⟨Bb, Bo, v, rfl, hb1, hb2, hB, hO, hv, hb⟩
  have HB5 := Aside0.mk (below_step HB4.out hb)
  have HT5 := Aside0.mk (show Boxed w5 (w.heap.size + 1) 4 (.bool false) from blk_below HT4.out hb)
  have HBB := Aside0.mk hB
  have HNM := Aside0.mk (fun X => morainelaw07_names.calls true X rfl)
  have hcmp : ∀ (lb : Array Value) (X : World), (binOp .eql 53 (.func (.func 36) #[] lb) .nilFunc).run Tryd.prog X = .ok (.bool false) X := by
    intro lb X
    first | rfl | (simp [binOp, go_sem]; done) | (unfold binOp; simp [go_sem, Tryd.underlying53]; done)
  clear hb1 hb2 hB hO hv hb
  go_wp2_with fail
  refine (wpIn_wide (n := 6)).1 ?_
  refine range_st3 (n := 6) (by decide) (gf := 36) (lb := #[.pointer (some ⟨Bb, 0, none⟩), .pointer (some ⟨Bo, 0, none⟩)]) rfl (enters_of Tryd.func36 (by kernel_rfl) rfl) (fun _ => rfl)
    (jall1_none (6 - 1) Bb Bo x0 w5 (fun _ => False) HBAD.out HBB.out) (fun _ X => Below w5.heap.size w5 X) (fun _ _ _ => False) (ownFrom_below (Nat.le_refl _) (Nat.le_refl _)) (fun _ _ _ _ _ hs _ _ => hs) (fun _ _ _ h hc => chg_below h hc) (fun _ _ _ _ hs _ => hs)
    (fun x X Z row h hg hr => R_others rfl h hg (fun r e => (hr r e).2)) (fun _ _ _ _ h _ => h) (Below.refl _ _) (fun x => _) (fun l x A K hK => by simp only [encY]; gi_wp2; exact hK) (fun _ _ _ _ _ _ _ _ _ hsp => hsp.elim) ?done (fun _ _ _ _ _ hsp => hsp.elim)
  case done =>
    rintro D xs X hD rfl hI hK
    have HK := Aside0.mk hK
    have HBX := Aside0.mk hI
    have HTX := Aside0.mk (show Boxed X (w.heap.size + 1) 4 (.bool false) from blk_below HT5.out hI)
    have HD := Aside0.mk (show w.heap.size + 1 < D from Nat.lt_of_lt_of_le HT5.out.lt hD)
    clear hK hI hD
    go_wp2_with fail
    (with_reducible refine (HNM.out _).mono ?_)
    rintro e w7 ⟨rfl, hd⟩
    have hT7 := bx_below HTX.out hd.below
    have q1 := hT7.cell
    have q2 := hT7.frozen
    have HT7 := Aside0.mk hT7
    have HK7 := Aside0.mk (show w7.heap[D]? = some (.deferred (some [])) by obtain ⟨nd, e⟩ := hd; rw [e]; exact HK.out)
    have HB7 := Aside0.mk (below_step (below_step HB5.out HBX.out) hd.below)
    clear hd hT7
    go_wp2
    have hk1 := dfr_far (j := 0) (v := .bool true) HK7.out HT7.out
    have hd1 := HD.out
    have hb8 := below_set (j := 0) (v := .bool true) HB7.out (Nat.le_succ w.heap.size)
    have ht8 := Boxed.set (.bool true) HT7.out
    refine ⟨by simp, .inl ⟨_, _, rfl, run_takeDeferred hk1, ?_⟩⟩
    have hb9 := hb8.trans (belowK_b (w := w) (Nat.le_refl _) _ _ _ (.deferred none) (show w.heap.size ≤ D by omega) hk1 rfl rfl)
    exact ⟨_, results_c rfl _ _ (w.heap.size + 1) (.bool true) rfl (Boxed.cell (Boxed.kept ht8 (grownBy_putObj' _ _ _) (by simp; omega))) Tryd.underlying4, rfl, hb9⟩

end Go.Proofs.YtmpkigambfghgaaDoor.G

/- Contracts typed by hand: journal: the document's piece -/
namespace Go.Proofs.YtmpkigambfghgaaDoor.G
open Go.RowKit Go.Proofs.YtmpkigambfghgaaDoorW.PrintWords Go.Proofs.YtmpkigambfghgaaDoorW.PrintLast Go.Proofs.YtmpkigambfghgaaDoorW.PrintMore
attribute [local go_sem] max2_int min2_int max_two min_two max_three min_three max_four min_four
set_option linter.unusedVariables false
set_option linter.unusedSimpArgs false

/-! journal: the document's piece -/
theorem fixed_step (k v i n : Nat) (out : List Int) (hv : v < 18446744073709551616) (hi : i < n) (hn : n ≤ 8) (ho : out.length ≤ 8) : moraineref01_Fixed.l0 (k + 1) (v : Int) (n : Int) out (i : Int) = moraineref01_Fixed.l0 k ((v / 256 : Nat) : Int) (n : Int) (out ++ [((v % 256 : Nat) : Int)]) ((i + 1 : Nat) : Int) := by
  have e1 : Int.tdiv (v : Int) 256 = ((v / 256 : Nat) : Int) := by rw [Int.tdiv_eq_ediv_of_nonneg (by omega)]; omega
  have e2 : IntKind.u64.wrap ((v / 256 : Nat) : Int) = ((v / 256 : Nat) : Int) := by rw [Go.IntKind.wrap_u64]; omega
  have e3 : wrap64 ((i : Int) + 1) = ((i + 1 : Nat) : Int) := (wr _ (by omega) (by omega)).trans (by omega)
  rw [moraineref01_Fixed.l0, if_pos (by omega), if_pos (by omega), e1, e2, e3, show (v : Int) % 256 = ((v % 256 : Nat) : Int) by omega]
theorem fixed_end (k v n : Nat) (out : List Int) : moraineref01_Fixed.l0 (k + 1) (v : Int) (n : Int) out (n : Int) = some out := by
  rw [moraineref01_Fixed.l0, if_neg (by omega)]
theorem fixed4_eq (k x : Nat) (hx : x < 4294967296) : moraineref01_Fixed.f (k + 5) (x : Int) 4 = some (fourJ x) := by
  unfold moraineref01_Fixed.f
  have h1 := fixed_step (k + 4) x 0 4 [] (by omega) (by omega) (by omega) (by simp)
  have h2 := fixed_step (k + 3) (x / 256) 1 4 ([] ++ [((x % 256 : Nat) : Int)]) (by omega) (by omega) (by omega) (by simp)
  have h3 := fixed_step (k + 2) (x / 256 / 256) 2 4 ([] ++ [((x % 256 : Nat) : Int)] ++ [((x / 256 % 256 : Nat) : Int)]) (by omega) (by omega) (by omega) (by simp)
  have h4 := fixed_step (k + 1) (x / 256 / 256 / 256) 3 4 ([] ++ [((x % 256 : Nat) : Int)] ++ [((x / 256 % 256 : Nat) : Int)] ++ [((x / 256 / 256 % 256 : Nat) : Int)]) (by omega) (by omega) (by omega) (by simp)
  have h5 := fixed_end k (x / 256 / 256 / 256 / 256) 4 ([] ++ [((x % 256 : Nat) : Int)] ++ [((x / 256 % 256 : Nat) : Int)] ++ [((x / 256 / 256 % 256 : Nat) : Int)] ++ [((x / 256 / 256 / 256 % 256 : Nat) : Int)])
  refine (h1.trans (h2.trans (h3.trans (h4.trans h5)))).trans ?_
  simp [fourJ, Nat.div_div_eq_div_mul]
theorem fixed2_eq (k x : Nat) (hx : x < 4294967296) : moraineref01_Fixed.f (k + 3) (x : Int) 2 = some (twoJ x) := by
  unfold moraineref01_Fixed.f
  have h1 := fixed_step (k + 2) x 0 2 [] (by omega) (by omega) (by omega) (by simp)
  have h2 := fixed_step (k + 1) (x / 256) 1 2 ([] ++ [((x % 256 : Nat) : Int)]) (by omega) (by omega) (by omega) (by simp)
  have h3 := fixed_end k (x / 256 / 256) 2 ([] ++ [((x % 256 : Nat) : Int)] ++ [((x / 256 % 256 : Nat) : Int)])
  refine (h1.trans (h2.trans h3)).trans ?_
  simp [twoJ]
theorem refpiece_eq (kind : Nat) (hk : kind < 256) (d : List Int) (hd : Byt d) (hl : d.length ≤ 4194304) : moraineref07_piece.f (10 * d.length + 21) (kind : Int) d = some (pieceJ kind d) := by
  have hs := refsumOf_eq (10 * d.length + 21) (kind : Int) d (by omega) (by omega) hd (by omega) (by omega)
  have hlt := sumN_lt (kind : Int) d
  obtain ⟨t, ht, hm⟩ := Option.bind_eq_some_iff.1 hs
  have e1 : IntKind.u64.wrap ((sumN (kind : Int) d : Nat) : Int) = ((sumN (kind : Int) d : Nat) : Int) := by rw [Go.IntKind.wrap_u64]; omega
  have e2 : IntKind.u64.wrap ((d.length : Nat) : Int) = ((d.length : Nat) : Int) := by rw [Go.IntKind.wrap_u64]; omega
  unfold moraineref07_piece.f
  rw [Option.bind_some, if_pos (by simp; omega), Option.bind_some, show (kind : Int) % 256 = (kind : Int) by omega, List.singleton_append, ht, Option.bind_some, hm, Option.bind_some, e1, e2, show 10 * d.length + 21 = (10 * d.length + 16) + 5 by omega, fixed4_eq _ _ hlt, Option.bind_some]
  rw [show (10 * d.length + 16) + 5 = (10 * d.length + 18) + 3 by omega, fixed2_eq _ _ (by omega), Option.bind_some, if_pos (by simp [fourJ, twoJ]), Option.bind_some, if_pos (by simp [fourJ, twoJ]; omega)]
  simp [pieceJ]

end Go.Proofs.YtmpkigambfghgaaDoor.G

/- Printed by the session's program over the kit's print, out of the translation: functions as plain Lean functions, and the proofs that the calls come to them. -/
namespace Go.Proofs.YtmpkigambfghgaaDoor.G
open Go.RowKit Go.Proofs.YtmpkigambfghgaaDoorW.PrintWords Go.Proofs.YtmpkigambfghgaaDoorW.PrintLast Go.Proofs.YtmpkigambfghgaaDoorW.PrintMore
attribute [local go_sem] max2_int min2_int max_two min_two max_three min_three max_four min_four   -- for this text's walks alone
set_option linter.unusedVariables false
set_option linter.unusedSimpArgs false

/-! ### moraineref07_noughts: function 37 -/
def moraineref07_noughts.l0 : Nat → List Int → Int → Option (Bool)
  | 0, _, _ => none
  | k + 1, x0, x3 => if x3 < (x0.length : Int) then (if 0 ≤ x3 then (if (rd x0 x3) = 0 then (moraineref07_noughts.l0 k x0 (wrap64 (x3 + 1))) else (some false)) else (none)) else (some true)
def moraineref07_noughts.f (k : Nat) (l0 : List Int) : Option (Bool) := moraineref07_noughts.l0 k l0 0
theorem moraineref07_noughts.mono_l : ∀ k, (∀ y0 y1, LeO (moraineref07_noughts.l0 k y0 y1) (moraineref07_noughts.l0 (k + 1) y0 y1))
  | 0 => fun _ _ r h => by simp [moraineref07_noughts.l0] at h
  | k + 1 => by
    have ih0 := moraineref07_noughts.mono_l k
    · intro y0 y1
      unfold moraineref07_noughts.l0
      repeat' first
      | (with_reducible exact ih0 _ _)
      | (with_reducible exact LeO.refl _)
      | (with_reducible exact LeO.none _)
      | (with_reducible refine LeO.ite ?_ ?_)
      | (with_reducible refine LeO.bind ?_ (fun _ => ?_))
      | exact ih0 _ _
      | exact LeO.none _
      | refine LeO.ite ?_ ?_
      | refine LeO.bind ?_ (fun _ => ?_)
theorem moraineref07_noughts.mono : ∀ a0 k, LeO (moraineref07_noughts.f k a0) (moraineref07_noughts.f (k + 1) a0) := by
  intro a0 k
  have ih0 := moraineref07_noughts.mono_l k
  unfold moraineref07_noughts.f
  repeat' first
      | (with_reducible exact ih0 _ _)
      | (with_reducible exact LeO.refl _)
      | (with_reducible exact LeO.none _)
      | (with_reducible refine LeO.ite ?_ ?_)
      | (with_reducible refine LeO.bind ?_ (fun _ => ?_))
      | exact ih0 _ _
      | exact LeO.none _
      | refine LeO.ite ?_ ?_
      | refine LeO.bind ?_ (fun _ => ?_)
set_option maxHeartbeats 8000000 in
set_option maxRecDepth 100000 in
theorem moraineref07_noughts.calls (k : Nat) (A0 : Option Addr) (c0 : Nat) (l0 : List Int) (r : Bool) (w : World) (hr0 : Kd.C (Kd.int .u8) w A0 l0.length l0) (hc0 : l0.length ≤ c0) (h : moraineref07_noughts.f k l0 = some r) :
    Calls Tryd.prog 37 #[.slice A0 l0.length c0] w fun e w' => e = .returned (.bool r) ∧ Drawn0 w w' := by
  have HR0 := Aside0.mk hr0
  have HC0 := Aside0.mk hc0
  clear hr0 hc0
  have H : (moraineref07_noughts.l0 k l0 0) = some r := h
  clear h
  have H' := Aside0.mk H
  clear H
  go_enter Tryd.func37, Tryd.ntmps37
  go_wp2
  go_loopg [3] k (fun kq v3 w' => ∃ (x3_1 : Int), v3 = .int .i64 x3_1 ∧ Aside0 (moraineref07_noughts.l0 kq l0 x3_1 = some r) ∧ Aside0 (kq ≤ k) ∧ Drawn0 w w')
  case atStart => exact ⟨(0), (by first | rfl | (simp; done) | (simp [*]; done)), H', ⟨Nat.le_refl _⟩, by repeat (first | exact Drawn0.refl _ | apply Drawn0.step)⟩
  case round =>
    clear H'
    obtain ⟨x3_1, rfl, HA, HK1, ⟨m1, rfl⟩⟩ := hrel
    cases gk with
    | zero => exact absurd HA.out (by simp [moraineref07_noughts.l0])
    | succ k1 =>
      have H := HA.out
      clear HA
      simp only [moraineref07_noughts.l0] at H
      by_cases c2 : x3_1 < (l0.length : Int)
      · rw [if_pos c2] at H
        have c2b0 : decide (x3_1 < (l0.length : Int)) = true := decide_eq_true c2
        clear c2
        by_cases c3 : 0 ≤ x3_1
        · rw [if_pos c3] at H
          have c3b0 : decide (0 ≤ x3_1) = true := decide_eq_true c3
          clear c3
          by_cases c4 : (rd l0 x3_1) = 0
          · rw [if_pos c4] at H
            have c4b0 : ((rd l0 x3_1) == 0) = true := beq_iff_eq.mpr c4
            have c4b1 : ((rd l0 x3_1) != 0) = false := bne_eq_false_iff_eq.mpr c4
            clear c4
            have H' := Aside0.mk H
            clear H
            have p255 : 0 ≤ (x3_1 : Int) := of_decide_eq_true (by first | (with_reducible assumption) | assumption)
            have q255 : x3_1 < (l0.length : Int) := of_decide_eq_true (by first | (with_reducible assumption) | assumption)
            obtain ⟨ad255, e255, hx255_0⟩ := Kd.at_int HR0.out x3_1 p255 q255
            cases e255
            replace p255 := eq_true p255
            replace q255 := eq_true q255
            go_wp2
            go_roundg k1
            case measure => have := HK1.out; omega
            case rel => exact ⟨(wrap64 (x3_1 + 1)), (by first | rfl | (simp; done) | (simp [*]; done)), H', ⟨by have := HK1.out; omega⟩, by repeat (first | exact Drawn0.refl _ | apply Drawn0.step)⟩
          · rw [if_neg c4] at H
            have c4b0 : ((rd l0 x3_1) == 0) = false := beq_eq_false_iff_ne.mpr c4
            have c4b1 : ((rd l0 x3_1) != 0) = true := bne_iff_ne.mpr c4
            obtain rfl := Option.some.inj H
            have p255 : 0 ≤ (x3_1 : Int) := of_decide_eq_true (by first | (with_reducible assumption) | assumption)
            have q255 : x3_1 < (l0.length : Int) := of_decide_eq_true (by first | (with_reducible assumption) | assumption)
            obtain ⟨ad255, e255, hx255_0⟩ := Kd.at_int HR0.out x3_1 p255 q255
            cases e255
            replace p255 := eq_true p255
            replace q255 := eq_true q255
            go_wp2
            go_ret
            exact ⟨by first | rfl | (simp; done) | (simp [*]; done), by repeat (first | exact Drawn0.refl _ | apply Drawn0.step)⟩
        · rw [if_neg c3] at H
          exact absurd H (by simp)
      · rw [if_neg c2] at H
        have c2b0 : decide (x3_1 < (l0.length : Int)) = false := decide_eq_false c2
        clear c2
        obtain rfl := Option.some.inj H
        go_wp2
        go_ret
        exact ⟨by first | rfl | (simp; done) | (simp [*]; done), by repeat (first | exact Drawn0.refl _ | apply Drawn0.step)⟩

end Go.Proofs.YtmpkigambfghgaaDoor.G

/- Printed by the session's program over the kit's print, out of the translation: functions as plain Lean functions, and the proofs that the calls come to them. -/
namespace Go.Proofs.YtmpkigambfghgaaDoor.G
open Go.RowKit Go.Proofs.YtmpkigambfghgaaDoorW.PrintWords Go.Proofs.YtmpkigambfghgaaDoorW.PrintLast Go.Proofs.YtmpkigambfghgaaDoorW.PrintMore
attribute [local go_sem] max2_int min2_int max_two min_two max_three min_three max_four min_four   -- for this text's walks alone
set_option linter.unusedVariables false
set_option linter.unusedSimpArgs false

/-! ### moraineref01_ReadFixed: function 38 -/
mutual
def moraineref01_ReadFixed.j0 : Nat → List Int → Int → Int → Bool → Option (Int × Int × Int)
  | 0, _, _, _, _ => none
  | k + 1, x0, x1, x2, x18 => if x18 = true then (some (0, 0, 2)) else (if (wrap64 ((x0.length : Int) - x1)) < x2 then (some (0, 0, 10)) else (moraineref01_ReadFixed.l0 k x0 x1 x2 0 (wrap64 (x2 - 1))))
def moraineref01_ReadFixed.l0 : Nat → List Int → Int → Int → Int → Int → Option (Int × Int × Int)
  | 0, _, _, _, _, _ => none
  | k + 1, x0, x1, x2, x9, x10 => if x10 ≥ 0 then (if 0 ≤ (wrap64 (x1 + x10)) then (if (wrap64 (x1 + x10)) < (x0.length : Int) then (moraineref01_ReadFixed.l0 k x0 x1 x2 (IntKind.u64.wrap ((IntKind.u64.wrap (x9 * 256)) + (IntKind.u64.wrap (rd x0 (wrap64 (x1 + x10)))))) (wrap64 (x10 - 1))) else (none)) else (none)) else (some (x9, wrap64 (x1 + x2), 0))
end
def moraineref01_ReadFixed.f (k : Nat) (l0 : List Int) (a1 : Int) (a2 : Int) : Option (Int × Int × Int) := if a1 < 0 then (moraineref01_ReadFixed.j0 k l0 a1 a2 true) else (moraineref01_ReadFixed.j0 k l0 a1 a2 (decide (a1 > (l0.length : Int))))
theorem moraineref01_ReadFixed.mono_l : ∀ k, (∀ y0 y1 y2 y3, LeO (moraineref01_ReadFixed.j0 k y0 y1 y2 y3) (moraineref01_ReadFixed.j0 (k + 1) y0 y1 y2 y3)) ∧ (∀ y0 y1 y2 y3 y4, LeO (moraineref01_ReadFixed.l0 k y0 y1 y2 y3 y4) (moraineref01_ReadFixed.l0 (k + 1) y0 y1 y2 y3 y4))
  | 0 => ⟨fun _ _ _ _ r h => by simp [moraineref01_ReadFixed.j0] at h, fun _ _ _ _ _ r h => by simp [moraineref01_ReadFixed.l0] at h⟩
  | k + 1 => by
    obtain ⟨ih0, ih1⟩ := moraineref01_ReadFixed.mono_l k
    refine ⟨?_, ?_⟩
    · intro y0 y1 y2 y3
      unfold moraineref01_ReadFixed.j0
      repeat' first
      | (with_reducible exact ih0 _ _ _ _)
      | (with_reducible exact ih1 _ _ _ _ _)
      | (with_reducible exact LeO.refl _)
      | (with_reducible exact LeO.none _)
      | (with_reducible refine LeO.ite ?_ ?_)
      | (with_reducible refine LeO.bind ?_ (fun _ => ?_))
      | exact ih0 _ _ _ _
      | exact ih1 _ _ _ _ _
      | exact LeO.none _
      | refine LeO.ite ?_ ?_
      | refine LeO.bind ?_ (fun _ => ?_)
    · intro y0 y1 y2 y3 y4
      unfold moraineref01_ReadFixed.l0
      repeat' first
      | (with_reducible exact ih0 _ _ _ _)
      | (with_reducible exact ih1 _ _ _ _ _)
      | (with_reducible exact LeO.refl _)
      | (with_reducible exact LeO.none _)
      | (with_reducible refine LeO.ite ?_ ?_)
      | (with_reducible refine LeO.bind ?_ (fun _ => ?_))
      | exact ih0 _ _ _ _
      | exact ih1 _ _ _ _ _
      | exact LeO.none _
      | refine LeO.ite ?_ ?_
      | refine LeO.bind ?_ (fun _ => ?_)
theorem moraineref01_ReadFixed.mono : ∀ a0 a1 a2 k, LeO (moraineref01_ReadFixed.f k a0 a1 a2) (moraineref01_ReadFixed.f (k + 1) a0 a1 a2) := by
  intro a0 a1 a2 k
  obtain ⟨ih0, ih1⟩ := moraineref01_ReadFixed.mono_l k
  unfold moraineref01_ReadFixed.f
  repeat' first
      | (with_reducible exact ih0 _ _ _ _)
      | (with_reducible exact ih1 _ _ _ _ _)
      | (with_reducible exact LeO.refl _)
      | (with_reducible exact LeO.none _)
      | (with_reducible refine LeO.ite ?_ ?_)
      | (with_reducible refine LeO.bind ?_ (fun _ => ?_))
      | exact ih0 _ _ _ _
      | exact ih1 _ _ _ _ _
      | exact LeO.none _
      | refine LeO.ite ?_ ?_
      | refine LeO.bind ?_ (fun _ => ?_)
set_option maxHeartbeats 8000000 in
set_option maxRecDepth 100000 in
theorem moraineref01_ReadFixed.calls (k : Nat) (A0 : Option Addr) (c0 : Nat) (l0 : List Int) (a1 : Int) (a2 : Int) (r1 : Int) (r2 : Int) (r3 : Int) (w : World) (hr0 : Kd.C (Kd.int .u8) w A0 l0.length l0) (hc0 : l0.length ≤ c0) (h : moraineref01_ReadFixed.f k l0 a1 a2 = some (r1, r2, r3)) :
    Calls Tryd.prog 38 #[.slice A0 l0.length c0, .int .i64 a1, .int .i64 a2] w fun e w' => e = .returned (.tuple #[.int .u64 r1, .int .i64 r2, .int .i64 r3]) ∧ Drawn0 w w' := by
  have HR0 := Aside0.mk hr0
  have HC0 := Aside0.mk hc0
  clear hr0 hc0
  have H : (if a1 < 0 then (moraineref01_ReadFixed.j0 k l0 a1 a2 true) else (moraineref01_ReadFixed.j0 k l0 a1 a2 (decide (a1 > (l0.length : Int))))) = some (r1, r2, r3) := h
  clear h
  have HC4 := Aside0.mk H
  clear H
  go_enter Tryd.func38, Tryd.ntmps38
  go_upto_region 1 with (fail)
  go_cut [18] (fun v18 wc => ∃ (kq : Nat) (x18_3 : Bool), v18 = .bool x18_3 ∧ Aside0 (moraineref01_ReadFixed.j0 kq l0 a1 a2 x18_3 = some (r1, r2, r3)) ∧ Aside0 (kq ≤ k) ∧ Drawn0 w wc)
  case first =>
    have H := HC4.out
    clear HC4
    by_cases c5 : a1 < 0
    · rw [if_pos c5] at H
      have c5b0 : decide (a1 < 0) = true := decide_eq_true c5
      clear c5
      (first | rw [c5b0] | (simp only [i64_w, i32_w]; rw [c5b0]) | skip)
      have H' := Aside0.mk H
      clear H
      go_wp2
      go_meet
      case rel => exact ⟨_, (true), (by first | rfl | (simp; done) | (simp [*]; done)), H', ⟨by first | omega | exact Nat.le_refl _⟩, by repeat (first | exact Drawn0.refl _ | apply Drawn0.step)⟩
    · rw [if_neg c5] at H
      have c5b0 : decide (a1 < 0) = false := decide_eq_false c5
      clear c5
      (first | rw [c5b0] | (simp only [i64_w, i32_w]; rw [c5b0]) | skip)
      have H' := Aside0.mk H
      clear H
      go_wp2
      go_meet
      case rel => exact ⟨_, (decide (a1 > (l0.length : Int))), (by first | rfl | (simp; done) | (simp [*]; done)), H', ⟨by first | omega | exact Nat.le_refl _⟩, by repeat (first | exact Drawn0.refl _ | apply Drawn0.step)⟩
  case rest =>
    clear HC4
    try clear p2
    try clear c3
    try clear c5
    try clear c5b0
    obtain ⟨kq, x18_3, rfl, HA, HJ3, ⟨mc3, rfl⟩⟩ := hcut
    cases kq with
    | zero => exact absurd HA.out (by simp [moraineref01_ReadFixed.j0])
    | succ kj3 =>
      have H := HA.out
      clear HA
      simp only [moraineref01_ReadFixed.j0] at H
      by_cases c6 : x18_3 = true
      · subst c6
        have H1 : (some (0, 0, 2)) = some (r1, r2, r3) := by rw [if_pos rfl] at H; exact H
        clear H
        have H := H1
        clear H1
        simp only [Option.some.injEq, Prod.mk.injEq] at H
        obtain ⟨rfl, rfl, rfl⟩ := H
        go_wp2
        go_ret3
        exact ⟨by first | rfl | (simp; done) | (simp [*]; done), by repeat (first | exact Drawn0.refl _ | apply Drawn0.step)⟩
      · replace c6 := Bool.eq_false_iff.mpr c6
        subst c6
        have H1 : (if (wrap64 ((l0.length : Int) - a1)) < a2 then (some (0, 0, 10)) else (moraineref01_ReadFixed.l0 kj3 l0 a1 a2 0 (wrap64 (a2 - 1)))) = some (r1, r2, r3) := by rw [if_neg (show ¬ (false = true) by decide)] at H; exact H
        clear H
        have H := H1
        clear H1
        by_cases c7 : (wrap64 ((l0.length : Int) - a1)) < a2
        · rw [if_pos c7] at H
          have c7b0 : decide ((wrap64 ((l0.length : Int) - a1)) < a2) = true := decide_eq_true c7
          clear c7
          simp only [Option.some.injEq, Prod.mk.injEq] at H
          obtain ⟨rfl, rfl, rfl⟩ := H
          go_wp2
          go_ret3
          exact ⟨by first | rfl | (simp; done) | (simp [*]; done), by repeat (first | exact Drawn0.refl _ | apply Drawn0.step)⟩
        · rw [if_neg c7] at H
          have c7b0 : decide ((wrap64 ((l0.length : Int) - a1)) < a2) = false := decide_eq_false c7
          clear c7
          have H' := Aside0.mk H
          clear H
          go_wp2
          go_loopg [9, 10] kj3 (fun kq v9 v10 w' => ∃ (x9_2 : Int) (x10_2 : Int), v9 = .int .u64 x9_2 ∧ v10 = .int .i64 x10_2 ∧ Aside0 (moraineref01_ReadFixed.l0 kq l0 a1 a2 x9_2 x10_2 = some (r1, r2, r3)) ∧ Aside0 (kq ≤ kj3) ∧ Drawn0 w w')
          case atStart => exact ⟨(0), (wrap64 (a2 - 1)), (by first | rfl | (simp; done) | (simp [*]; done)), (by first | rfl | (simp; done) | (simp [*]; done)), H', ⟨Nat.le_refl _⟩, by repeat (first | exact Drawn0.refl _ | apply Drawn0.step)⟩
          case round =>
            clear H'
            try clear p2
            try clear c3
            try clear c5
            try clear c5b0
            try clear c6
            try clear p6
            try clear c7
            try clear c7b0
            try clear p2
            obtain ⟨x9_2, x10_2, rfl, rfl, HA, HK2, ⟨m2, rfl⟩⟩ := hrel
            cases gk with
            | zero => exact absurd HA.out (by simp [moraineref01_ReadFixed.l0])
            | succ k2 =>
              have H := HA.out
              clear HA
              simp only [moraineref01_ReadFixed.l0] at H
              by_cases c8 : x10_2 ≥ 0
              · rw [if_pos c8] at H
                have c8b0 : decide (0 ≤ x10_2) = true := decide_eq_true c8
                clear c8
                obtain ⟨ji9, hji9⟩ : ∃ j_ : Int, (wrap64 (a1 + x10_2)) = j_ := ⟨_, rfl⟩
                replace H : (if 0 ≤ (ji9) then (if (ji9) < (l0.length : Int) then (moraineref01_ReadFixed.l0 k2 l0 a1 a2 (IntKind.u64.wrap ((IntKind.u64.wrap (x9_2 * 256)) + (IntKind.u64.wrap (rd l0 (ji9))))) (wrap64 (x10_2 - 1))) else (none)) else (none)) = some (r1, r2, r3) := by first | (rw [hji9] at H; exact H) | (simp only [hji9] at H ⊢; exact H)
                have hji9w : (IntKind.i64.wrap (a1 + x10_2)) = ji9 := (i64_w _).trans hji9
                by_cases c10 : 0 ≤ (ji9)
                · rw [if_pos c10] at H
                  have c10b0 : decide (0 ≤ (ji9)) = true := decide_eq_true c10
                  clear c10
                  by_cases c11 : (ji9) < (l0.length : Int)
                  · rw [if_pos c11] at H
                    have c11b0 : decide ((ji9) < (l0.length : Int)) = true := decide_eq_true c11
                    clear c11
                    have H' := Aside0.mk H
                    clear H
                    have p256 : 0 ≤ ((ji9) : Int) := of_decide_eq_true (by first | (with_reducible assumption) | assumption)
                    have q256 : (ji9) < (l0.length : Int) := of_decide_eq_true (by first | (with_reducible assumption) | assumption)
                    obtain ⟨ad256, e256, hx256_0⟩ := Kd.at_int HR0.out (ji9) p256 q256
                    cases e256
                    replace p256 := eq_true p256
                    replace q256 := eq_true q256
                    go_wp2
                    go_roundg k2
                    case measure => have := HJ3.out; have := HK2.out; omega
                    case rel => exact ⟨(IntKind.u64.wrap ((IntKind.u64.wrap (x9_2 * 256)) + (IntKind.u64.wrap (rd l0 (ji9))))), (wrap64 (x10_2 - 1)), (by first | rfl | (simp; done) | (simp only [← hji9] <;> (first | rfl | simp)) | (simp [*]; done)), (by first | rfl | (simp; done) | (simp [*]; done)), H', ⟨by have := HJ3.out; have := HK2.out; omega⟩, by repeat (first | exact Drawn0.refl _ | apply Drawn0.step)⟩
                  · rw [if_neg c11] at H
                    exact absurd H (by simp)
                · rw [if_neg c10] at H
                  exact absurd H (by simp)
              · rw [if_neg c8] at H
                have c8b0 : decide (0 ≤ x10_2) = false := decide_eq_false c8
                clear c8
                simp only [Option.some.injEq, Prod.mk.injEq] at H
                obtain ⟨rfl, rfl, rfl⟩ := H
                go_wp2
                go_ret3
                exact ⟨by first | rfl | (simp; done) | (simp [*]; done), by repeat (first | exact Drawn0.refl _ | apply Drawn0.step)⟩

end Go.Proofs.YtmpkigambfghgaaDoor.G
