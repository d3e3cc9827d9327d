/- Contracts typed by hand: what the printed functions of the sums come to: Sum, Extend, the reference's, Patch -/
import Derived.Test.YtnapjjjomodmeaaDoorProg
import Derived.Below
import Derived.Deep.Draws
import Derived.Deep.AppendLies
import Derived.Maps.AppendAt
import Derived.OwnWalk
import Derived.Laws.BytesArg
import Derived.Laws.MakeOwn
import Derived.Laws.OwnMore
import Derived.Deep.OwnRows
import Derived.Tactics
import Derived.Lib.ConvBytes
import Derived.Laws.Slices
import Derived.WalkKit
import Derived.KernelRfl
import Derived.RowKit3
import Derived.Deep.LoopGhost
import Derived.Deep.QuietTactic
import Derived.BigQuiet
import Derived.WideLaws
import Derived.Deep.DeepCutAuto
import Derived.Deep.CutBlock
import Derived.Deep.RegionHeld3
import Derived.Laws.Rows
import Derived.Lib.AppendStr
import Derived.ArgAppend
import Derived.Laws.IdiomCopy
import Derived.OrdersHeld
import Derived.Laws.BitsLemmas
import Derived.RowKit
import Derived.Test.YtnapjjjomodmeaaDoorWWords
import Derived.Test.YtnapjjjomodmeaaDoorWLast
import Derived.Test.YtnapjjjomodmeaaDoorWTab
import Derived.Test.YtnapjjjomodmeaaDoorWFour
import Derived.Test.YtnapjjjomodmeaaDoorWQPut
import Derived.Test.YtnapjjjomodmeaaDoorWApart
import Derived.Test.YtnapjjjomodmeaaDoorWArr
import Derived.Test.YtnapjjjomodmeaaDoorWZeros
import Derived.Test.YtnapjjjomodmeaaDoorWFoot
import Derived.Test.YtnapjjjomodmeaaDoorWKept
import Derived.Test.YtnapjjjomodmeaaDoorWShare
import Derived.Test.YtnapjjjomodmeaaDoorWN
import Derived.Test.YtnapjjjomodmeaaDoorWFootNe
import Derived.Test.YtnapjjjomodmeaaDoorWAt
import Derived.Test.YtnapjjjomodmeaaDoorWEqStruct
import Derived.Test.YtnapjjjomodmeaaDoorWRepsOne
import Derived.Test.YtnapjjjomodmeaaDoorWInv
import Derived.Test.YtnapjjjomodmeaaDoorWInvWords
import Derived.Test.YtnapjjjomodmeaaDoorWGuard
import Derived.Test.YtnapjjjomodmeaaDoorWNEv
import Derived.Test.YtnapjjjomodmeaaDoorWMore
import Derived.Test.YtnapjjjomodmeaaDoorManWorks02
import Derived.Test.YtnapjjjomodmeaaDoorGx3
import Derived.Test.YtnapjjjomodmeaaDoorGx4
import Derived.Test.YtnapjjjomodmeaaDoorGx6
import Derived.Test.YtnapjjjomodmeaaDoorGx14
import Derived.Test.YtnapjjjomodmeaaDoorGx15
import Derived.Test.YtnapjjjomodmeaaDoorGx11
namespace Go.Proofs.YtnapjjjomodmeaaDoor.G
open Go.RowKit Go.Proofs.YtnapjjjomodmeaaDoorW.PrintWords Go.Proofs.YtnapjjjomodmeaaDoorW.PrintLast Go.Proofs.YtnapjjjomodmeaaDoorW.PrintMore
attribute [local go_sem] max2_int min2_int max_two min_two max_three min_three max_four min_four
set_option linter.unusedVariables false
set_option linter.unusedSimpArgs false

/-! what the printed functions of the sums come to: Sum, Extend, the reference's, Patch -/
def natl (l : List Int) : List Nat := l.map Int.toNat
def Byt (f : List Int) : Prop := ∀ x ∈ f, 0 ≤ x ∧ x < 256
theorem Byt.nil : Byt [] := fun x h => by cases h
theorem Byt.cons {x : Int} {l : List Int} (h0 : 0 ≤ x) (h1 : x < 256) (h : Byt l) : Byt (x :: l) := fun y hy => by
  rcases List.mem_cons.1 hy with rfl | hy
  · exact ⟨h0, h1⟩
  · exact h y hy
theorem Byt.append {a b : List Int} (ha : Byt a) (hb : Byt b) : Byt (a ++ b) := fun x hx => (List.mem_append.1 hx).elim (ha x) (hb x)
theorem Byt.take {a : List Int} (ha : Byt a) (n : Nat) : Byt (a.take n) := fun x hx => ha x (List.mem_of_mem_take hx)
theorem byt_of_wf {l : List Int} (h : ∀ x ∈ l, (Lit.int .u8 x).wf = true) : Byt l := fun x hx => by
  have : 0 ≤ x ∧ x ≤ 255 := by simpa [Lit.wf, IntKind.min, IntKind.max, IntKind.signed, IntKind.bits] using h x hx
  omega
theorem natl_byt {l : List Int} (h : Byt l) : ∀ b ∈ natl l, b < 256 := fun b hb => by
  obtain ⟨x, hx, rfl⟩ := List.mem_map.1 hb
  have := h x hx
  omega
theorem wr (x : Int) (h0 : -9223372036854775808 ≤ x) (h1 : x ≤ 9223372036854775807) : wrap64 x = x := by unfold wrap64; omega
theorem rd_at (l : List Int) (i : Nat) (h : i < l.length) : rd l (i : Int) = l[i] := by
  unfold rd
  rw [Int.toNat_natCast, List.getD_eq_getElem?_getD, List.getElem?_eq_getElem h]
  rfl
/-- all ones, exclusive-ored -/
def ones : Nat := 4294967295
def inv (r : Nat) : Nat := ones ^^^ r
theorem ones_lt : ones < 4294967296 := by unfold ones; omega
theorem inv_lt {r : Nat} (h : r < 4294967296) : inv r < 4294967296 := by
  show ones ^^^ r < 4294967296
  exact xor_lt ones_lt h
theorem xor_xor (a r : Nat) : a ^^^ (a ^^^ r) = r := by rw [← Nat.xor_assoc, Nat.xor_self, Nat.zero_xor]
theorem inv_def (r : Nat) : inv r = ones ^^^ r := rfl
theorem inv_inv (r : Nat) : inv (inv r) = r := by rw [inv_def, inv_def, xor_xor]
theorem inv_inj {a b : Nat} (h : inv a = inv b) : a = b := by rw [← inv_inv a, h, inv_inv]
theorem inv_int (r : Nat) (h : r < 4294967296) : bits .xor .u32 4294967295 (r : Int) = ((inv r : Nat) : Int) := by
  rw [show (4294967295 : Int) = ((ones : Nat) : Int) by rfl, u32_xor_nat _ r (by unfold ones; omega) h]
  rfl
def ext (s : Nat) (l : List Int) : Nat := inv (crcB (inv s) (natl l))
theorem ext_lt {s : Nat} {l : List Int} (hs : s < 4294967296) (hl : Byt l) : ext s l < 4294967296 := inv_lt (crcB_lt _ _ (inv_lt hs) (natl_byt hl))
theorem extend_loop (l : List Int) (hb : Byt l) (hl : l.length ≤ 1099511627776) : ∀ (d i k : Nat) (r : Nat), i + d = l.length → r < 4294967296 → check_Extend.l0 (k + d + 1) (r : Int) l (l.length : Int) (i : Int) = some ((inv (crcB r (natl (l.drop i))) : Nat) : Int)
  | 0, i, k, r, hi, hr => by
    obtain rfl : i = l.length := by omega
    rw [check_Extend.l0, if_neg (by omega), List.drop_length, inv_int r hr]
    rfl
  | d + 1, i, k, r, hi, hr => by
    have hil : i < l.length := by omega
    obtain ⟨b0, b1⟩ := hb _ (List.getElem_mem hil)
    have c0 : (i : Int) < (l.length : Int) := by omega
    have c1 : 0 ≤ (i : Int) := by omega
    have e5 : wrap64 ((i : Int) + 1) = ((i + 1 : Nat) : Int) := (wr _ (by omega) (by omega)).trans (by omega)
    have ht : check_take.f (r : Int) l[i] = some ((crcN 8 (r ^^^ l[i].toNat) : Nat) : Int) := by
      unfold check_take.f
      rw [if_pos ⟨by omega, by omega, b0, b1⟩, Int.toNat_natCast]
    rw [show k + (d + 1) + 1 = (k + d + 1) + 1 by omega, check_Extend.l0, if_pos c0, if_pos c1, if_pos c0, rd_at l i hil, ht, Option.bind_some, e5]
    rw [extend_loop l hb hl d (i + 1) k _ (by omega) (crcN_lt 8 (xor_lt hr (by omega)))]
    rw [List.drop_eq_getElem_cons hil]
    rfl
theorem extend_eq (k s : Nat) (l : List Int) (hs : s < 4294967296) (hb : Byt l) (hl : l.length ≤ 1099511627776) (hk : l.length + 1 ≤ k) : check_Extend.f k (s : Int) l = some ((ext s l : Nat) : Int) := by
  obtain ⟨k, rfl⟩ : ∃ m, k = m + l.length + 1 := ⟨k - l.length - 1, by omega⟩
  unfold check_Extend.f
  rw [inv_int s hs]
  have := extend_loop l hb hl l.length 0 k (inv s) (by omega) (inv_lt hs)
  rw [List.drop_zero] at this
  exact this
theorem sum_eq (k : Nat) (l : List Int) (hb : Byt l) (hl : l.length ≤ 1099511627776) (hk : l.length + 1 ≤ k) : check_Sum.f k l = some ((ext 0 l : Nat) : Int) := by
  unfold check_Sum.f
  rw [show (0 : Int) = ((0 : Nat) : Int) by rfl, extend_eq k 0 l (by omega) hb hl hk]
  rfl
set_option maxRecDepth 100000 in
theorem works_num : ext 0 w9 = 3808858755 := by decide +kernel
theorem works_eq (k : Nat) (hk : 10 ≤ k) : morainelaw02_works.f k = some true := by
  unfold morainelaw02_works.f
  have hb : Byt w9 := by
    intro x hx
    simp only [w9, List.mem_cons, List.not_mem_nil, or_false] at hx
    omega
  rw [sum_eq k _ hb (by decide) (by simpa [w9] using hk), Option.bind_some]
  rw [works_num]
  rfl
/-! the reference, bit by bit -/
theorem and1 (x : Nat) (h : x < 4294967296) : bits .and .u32 (x : Int) 1 = ((x % 2 : Nat) : Int) := by
  rw [show (1 : Int) = ((1 : Nat) : Int) by rfl, u32_and_nat x 1 h (by omega)]
  congr 1
  have := Nat.and_two_pow_sub_one_eq_mod x 1
  rw [Nat.pow_one] at this
  exact this
theorem reftake_eq (r b : Nat) (hr : r < 4294967296) (hb : b < 4294967296) : moraineref02_take.f (r : Int) (b : Int) = some ((crc1 (r ^^^ (b % 2)) : Nat) : Int) := by
  have h1 : (r ^^^ b) % 2 = (r ^^^ (b % 2)) % 2 := by rw [xor_odd, xor_odd]; omega
  have h2 : (r ^^^ (b % 2)) / 2 = r / 2 := by
    rw [xor_half, show b % 2 / 2 = 0 by omega, Nat.xor_zero]
  have hd : (r : Int) / 2 = ((r / 2 : Nat) : Int) := by omega
  unfold moraineref02_take.f crc1
  rw [u32_xor_nat r b hr hb, and1 _ (xor_lt hr hb), h1, h2, hd]
  by_cases ho : (r ^^^ (b % 2)) % 2 = 1
  · rw [if_pos ho, if_pos (by omega), show (2197175160 : Int) = ((crcP : Nat) : Int) by rfl, u32_xor_nat _ _ (by omega) (by unfold crcP; omega)]
  · rw [if_neg ho, if_neg (by omega), Nat.xor_zero]
theorem crcN_bit (d r B : Nat) : crcN (d + 1) (r ^^^ B) = crcN d (crc1 (r ^^^ (B % 2)) ^^^ (B / 2)) := by
  have e2 := xor_split 1 B
  rw [Nat.pow_one] at e2
  conv => lhs; rw [← e2]
  rw [Nat.xor_comm (2 * (B / 2)), ← Nat.xor_assoc]
  simp only [crcN]
  rw [crc1_xor, crc1_double]
theorem over_inner (l : List Int) (i b : Nat) (hil : i < l.length) (hl : l.length ≤ 1099511627776) (hx : rd l (i : Int) = (b : Int)) (hb : b < 256) : ∀ (d j k : Nat) (r : Nat), j + d = 8 → r < 4294967296 →
    moraineref02_over.l1 (k + d + 1) (r : Int) l (i : Int) (j : Int) = moraineref02_over.l0 k ((crcN d (r ^^^ (b / 2 ^ j)) : Nat) : Int) l ((i + 1 : Nat) : Int)
  | 0, j, k, r, hj, hr => by
    obtain rfl : j = 8 := by omega
    have e5 : wrap64 ((i : Int) + 1) = ((i + 1 : Nat) : Int) := (wr _ (by omega) (by omega)).trans (by omega)
    rw [moraineref02_over.l1, if_neg (by omega), e5, Nat.div_eq_of_lt (by omega), Nat.xor_zero]
    rfl
  | d + 1, j, k, r, hj, hr => by
    have c0 : (j : Int) < 8 := by omega
    have c1 : 0 ≤ (i : Int) := by omega
    have c2 : (i : Int) < (l.length : Int) := by omega
    have c3 : 0 ≤ (j : Int) := by omega
    have e5 : wrap64 ((j : Int) + 1) = ((j + 1 : Nat) : Int) := (wr _ (by omega) (by omega)).trans (by omega)
    have hle : b / 2 ^ j ≤ b := Nat.div_le_self _ _
    have es : shr .u32 ((b : Int) % 4294967296) (j : Int) = ((b / 2 ^ j : Nat) : Int) := by
      unfold shr
      rw [Int.toNat_natCast, Nat.min_eq_left (by show j ≤ 32; omega), show (b : Int) % 4294967296 = (b : Int) by omega]
      push_cast
      rfl
    rw [show k + (d + 1) + 1 = (k + d + 1) + 1 by omega, moraineref02_over.l1, if_pos c0, if_pos c1, if_pos c2, if_pos c3, hx, e5, es, reftake_eq r _ hr (by omega), Option.bind_some]
    rw [over_inner l i b hil hl hx hb d (j + 1) k _ (by omega) (crc1_lt (xor_lt hr (by omega))), crcN_bit d r, Nat.div_div_eq_div_mul, Nat.pow_succ]
theorem over_loop (l : List Int) (hb : Byt l) (hl : l.length ≤ 1099511627776) : ∀ (d i k : Nat) (r : Nat), i + d = l.length → r < 4294967296 → moraineref02_over.l0 (k + 10 * d + 1) (r : Int) l (i : Int) = some ((crcB r (natl (l.drop i)) : Nat) : Int)
  | 0, i, k, r, hi, hr => by
    obtain rfl : i = l.length := by omega
    rw [moraineref02_over.l0, if_neg (by omega), List.drop_length]
    rfl
  | d + 1, i, k, r, hi, hr => by
    have hil : i < l.length := by omega
    obtain ⟨b0, b1⟩ := hb _ (List.getElem_mem hil)
    obtain ⟨b, hbb⟩ := Int.eq_ofNat_of_zero_le b0
    have c0 : (i : Int) < (l.length : Int) := by omega
    have hin := over_inner l i b hil hl ((rd_at l i hil).trans hbb) (by omega) 8 0 (k + 10 * d + 1) r (by omega) hr
    rw [show ((0 : Nat) : Int) = 0 by rfl, Nat.pow_zero, Nat.div_one] at hin
    rw [show k + 10 * (d + 1) + 1 = (k + 10 * d + 1 + 8 + 1) + 1 by omega, moraineref02_over.l0, if_pos c0, hin]
    rw [over_loop l hb hl d (i + 1) k _ (by omega) (crcN_lt 8 (xor_lt hr (by omega))), List.drop_eq_getElem_cons hil]
    unfold natl
    rw [List.map_cons, crcB_cons, hbb]
    rfl
theorem over_eq (k r : Nat) (l : List Int) (hr : r < 4294967296) (hb : Byt l) (hl : l.length ≤ 1099511627776) (hk : 10 * l.length + 1 ≤ k) : moraineref02_over.f k (r : Int) l = some ((crcB r (natl l) : Nat) : Int) := by
  obtain ⟨k, rfl⟩ : ∃ m, k = m + 10 * l.length + 1 := ⟨k - 10 * l.length - 1, by omega⟩
  unfold moraineref02_over.f
  have := over_loop l hb hl l.length 0 k r (by omega) hr
  rw [List.drop_zero] at this
  exact this
/-! four bytes that bring a sum to another one -/
def four (x : Nat) : List Int := [(x : Int) % 256, ((x : Int) / 256) % 256, ((x : Int) / 65536) % 256, ((x : Int) / 16777216) % 256]
theorem four_byt (x : Nat) : Byt (four x) := by
  intro y hy
  simp only [four, List.mem_cons, List.not_mem_nil, or_false] at hy
  omega
theorem crcB_fourx (r x : Nat) (h : x < 4294967296) : crcB r (natl (four x)) = crcN 32 (r ^^^ x) := by
  have e : natl (four x) = [x % 256, x / 256 % 256, x / 65536 % 256, x / 16777216 % 256] := by
    simp only [natl, four, List.map_cons, List.map_nil]
    have e1 : ((x : Int) % 256).toNat = x % 256 := by omega
    have e2 : ((x : Int) / 256 % 256).toNat = x / 256 % 256 := by omega
    have e3 : ((x : Int) / 65536 % 256).toNat = x / 65536 % 256 := by omega
    have e4 : ((x : Int) / 16777216 % 256).toNat = x / 16777216 % 256 := by omega
    rw [e1, e2, e3, e4]
  rw [e, crcB_four _ _ _ _ _ (by omega) (by omega) (by omega) (by omega)]
  congr 2
  omega
theorem four_inj {x y : Nat} (hx : x < 4294967296) (hy : y < 4294967296) (h : four x = four y) : x = y := by
  simp only [four, List.cons.injEq, and_true] at h
  omega
def pat (s t : Nat) : Nat := crcUN 32 (inv t) ^^^ inv s
theorem pat_lt {s t : Nat} (hs : s < 4294967296) (ht : t < 4294967296) : pat s t < 4294967296 := xor_lt (crcUN_lt 32 (inv_lt ht)) (inv_lt hs)
theorem back_eq (r : Nat) (h : r < 4294967296) : (((r : Int) / 2147483648 = 1) ↔ r / 2147483648 = 1) ∧ bits .or .u32 (bits .xor .u32 (r : Int) 2197175160 * 2 % 4294967296) 1 = (((r ^^^ crcP) * 2 % 4294967296 + 1 : Nat) : Int) ∧ (r : Int) * 2 % 4294967296 = ((r * 2 % 4294967296 : Nat) : Int) := by
  refine ⟨by omega, ?_, by omega⟩
  have hx : r ^^^ crcP < 4294967296 := xor_lt h (by unfold crcP; omega)
  rw [show (2197175160 : Int) = ((crcP : Nat) : Int) by rfl, u32_xor_nat r crcP h (by unfold crcP; omega)]
  generalize r ^^^ crcP = y at *
  have e : (y : Int) * 2 % 4294967296 = ((2 ^ 1 * (y * 2 % 4294967296 / 2) : Nat) : Int) := by omega
  rw [e, show (1 : Int) = ((1 : Nat) : Int) by rfl, u32_or_nat _ 1 (by omega) (by omega), ← Nat.two_pow_add_eq_or_of_lt (i := 1) (by omega)]
  omega
theorem patch_loop (f : Nat → Int → Int → Int → Option (List Int)) (hf : ∀ k (s r i : Int), f (k + 1) s r i = if i < 32 then (if r / 2147483648 = 1 then f k s (bits .or .u32 (bits .xor .u32 r 2197175160 * 2 % 4294967296) 1) (wrap64 (i + 1)) else f k s (r * 2 % 4294967296) (wrap64 (i + 1))) else some [(bits .xor .u32 r (bits .xor .u32 4294967295 s)) % 256, ((bits .xor .u32 r (bits .xor .u32 4294967295 s)) / 256) % 256, ((bits .xor .u32 r (bits .xor .u32 4294967295 s)) / 65536) % 256, ((bits .xor .u32 r (bits .xor .u32 4294967295 s)) / 16777216) % 256]) (s : Nat) (hs : s < 4294967296) :
    ∀ (d i k r : Nat), i + d = 32 → r < 4294967296 → f (k + d + 1) (s : Int) (r : Int) (i : Int) = some (four (crcUN d r ^^^ inv s))
  | 0, i, k, r, hi, hr => by
    obtain rfl : i = 32 := by omega
    rw [hf, if_neg (by omega), inv_int s hs, u32_xor_nat r _ hr (inv_lt hs)]
    rfl
  | d + 1, i, k, r, hi, hr => by
    have e5 : wrap64 ((i : Int) + 1) = ((i + 1 : Nat) : Int) := (wr _ (by omega) (by omega)).trans (by omega)
    obtain ⟨h1, h2, h3⟩ := back_eq r hr
    rw [show k + (d + 1) + 1 = (k + d + 1) + 1 by omega, hf, if_pos (by omega), e5, h2, h3]
    have hu := crcU_lt hr
    have ih := patch_loop f hf s hs d (i + 1) k (crcU r) (by omega) hu
    simp only [crcUN]
    unfold crcU at ih ⊢
    by_cases ht : r / 2147483648 = 1
    · rw [if_pos ht] at ih ⊢
      rw [if_pos (h1.2 ht)]
      exact ih
    · rw [if_neg ht] at ih ⊢
      rw [if_neg (fun e => ht (h1.1 e))]
      exact ih
theorem patch_eq (k s t : Nat) (hs : s < 4294967296) (ht : t < 4294967296) (hk : 40 ≤ k) : check_Patch.f k (s : Int) (t : Int) = some (four (pat s t)) ∧ moraineref02_Patch.f k (s : Int) (t : Int) = some (four (pat s t)) := by
  obtain ⟨k, rfl⟩ : ∃ m, k = m + 32 + 1 := ⟨k - 33, by omega⟩
  refine ⟨?_, ?_⟩
  · unfold check_Patch.f
    rw [inv_int t ht]
    exact patch_loop check_Patch.l0 (fun k s r i => by rw [check_Patch.l0]) s hs 32 0 k (inv t) (by omega) (inv_lt ht)
  · unfold moraineref02_Patch.f
    rw [inv_int t ht]
    exact patch_loop moraineref02_Patch.l0 (fun k s r i => by rw [moraineref02_Patch.l0]) s hs 32 0 k (inv t) (by omega) (inv_lt ht)
/-- the four bytes do what they should -/
theorem pat_does (s t : Nat) (hs : s < 4294967296) (ht : t < 4294967296) : ext s (four (pat s t)) = t := by
  unfold ext
  rw [crcB_fourx _ _ (pat_lt hs ht)]
  unfold pat
  rw [Nat.xor_comm (inv s), xor_cancel, crcN_crcUN 32 (inv_lt ht), inv_inv]
theorem ext_append (s : Nat) (a b : List Int) : ext s (a ++ b) = ext (ext s a) b := by
  unfold ext natl
  rw [List.map_append, crcB_append, inv_inv]
theorem four_tells (s x y : Nat) (hs : s < 4294967296) (hx : x < 4294967296) (hy : y < 4294967296) (h : ext s (four x) = ext s (four y)) : x = y := by
  unfold ext at h
  have h2 := inv_inj h
  rw [crcB_fourx _ _ hx, crcB_fourx _ _ hy] at h2
  have h3 := crcN_inj 32 (xor_lt (inv_lt hs) hx) (xor_lt (inv_lt hs) hy) h2
  have h4 := congrArg (fun z => inv s ^^^ z) h3
  simp only [← Nat.xor_assoc, Nat.xor_self, Nat.zero_xor] at h4
  exact h4
theorem u32_range {x : Int} (h : (Lit.int .u32 x).wf = true) : 0 ≤ x ∧ x < 4294967296 := by
  have : 0 ≤ x ∧ x ≤ 4294967295 := by simpa [Lit.wf, IntKind.min, IntKind.max, IntKind.signed, IntKind.bits] using h
  omega

end Go.Proofs.YtnapjjjomodmeaaDoor.G
