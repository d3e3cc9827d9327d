/- Contracts typed by hand: the sums of bytes: Extend, Sum, Mask, the reference's, and a piece's sum -/
import Derived.Test.YtmpkigambfghgaaDoorProg
import Derived.Below
import Derived.Deep.Draws
import Derived.Deep.AppendLies
import Derived.Maps.AppendAt
import Derived.OwnWalk
import Derived.Laws.BytesArg
import Derived.Laws.MakeOwn
import Derived.Laws.OwnMore
import Derived.Deep.OwnRows
import Derived.Tactics
import Derived.Lib.ConvBytes
import Derived.Laws.Slices
import Derived.WalkKit
import Derived.KernelRfl
import Derived.RowKit3
import Derived.Deep.LoopGhost
import Derived.Deep.QuietTactic
import Derived.BigQuiet
import Derived.WideLaws
import Derived.Deep.DeepCutAuto
import Derived.Deep.CutBlock
import Derived.Deep.RegionHeld3
import Derived.Laws.Rows
import Derived.Lib.AppendStr
import Derived.ArgAppend
import Derived.Laws.IdiomCopy
import Derived.OrdersHeld
import Derived.Laws.BitsLemmas
import Derived.RowKit
import Derived.Test.YtmpkigambfghgaaDoorWWords
import Derived.Test.YtmpkigambfghgaaDoorWLast
import Derived.Test.YtmpkigambfghgaaDoorWTab
import Derived.Test.YtmpkigambfghgaaDoorWFour
import Derived.Test.YtmpkigambfghgaaDoorWQPut
import Derived.Test.YtmpkigambfghgaaDoorWApart
import Derived.Test.YtmpkigambfghgaaDoorWArr
import Derived.Test.YtmpkigambfghgaaDoorWZeros
import Derived.Test.YtmpkigambfghgaaDoorWFoot
import Derived.Test.YtmpkigambfghgaaDoorWKept
import Derived.Test.YtmpkigambfghgaaDoorWShare
import Derived.Test.YtmpkigambfghgaaDoorWN
import Derived.Test.YtmpkigambfghgaaDoorWFootNe
import Derived.Test.YtmpkigambfghgaaDoorWAt
import Derived.Test.YtmpkigambfghgaaDoorWEqStruct
import Derived.Test.YtmpkigambfghgaaDoorWRepsOne
import Derived.Test.YtmpkigambfghgaaDoorWInv
import Derived.Test.YtmpkigambfghgaaDoorWInvWords
import Derived.Test.YtmpkigambfghgaaDoorWGuard
import Derived.Test.YtmpkigambfghgaaDoorWNEv
import Derived.Test.YtmpkigambfghgaaDoorWMore
import Derived.Test.YtmpkigambfghgaaDoorPureCrc
import Derived.Test.YtmpkigambfghgaaDoorManTake
import Derived.Laws.BitsAllLaws
import Derived.Test.YtmpkigambfghgaaDoorGx5
import Derived.Test.YtmpkigambfghgaaDoorGx6
import Derived.Test.YtmpkigambfghgaaDoorGx4
import Derived.Test.YtmpkigambfghgaaDoorGx7
import Derived.Test.YtmpkigambfghgaaDoorGx23
import Derived.Test.YtmpkigambfghgaaDoorGx19
import Derived.Test.YtmpkigambfghgaaDoorGx21
import Derived.Test.YtmpkigambfghgaaDoorGx20
import Derived.Test.YtmpkigambfghgaaDoorGx22
namespace Go.Proofs.YtmpkigambfghgaaDoor.G
open Go.RowKit Go.Proofs.YtmpkigambfghgaaDoorW.PrintWords Go.Proofs.YtmpkigambfghgaaDoorW.PrintLast Go.Proofs.YtmpkigambfghgaaDoorW.PrintMore
attribute [local go_sem] max2_int min2_int max_two min_two max_three min_three max_four min_four
set_option linter.unusedVariables false
set_option linter.unusedSimpArgs false

/-! the sums of bytes: Extend, Sum, Mask, the reference's, and a piece's sum -/
def natl (l : List Int) : List Nat := l.map Int.toNat
def Byt (f : List Int) : Prop := ∀ x ∈ f, 0 ≤ x ∧ x < 256
theorem Byt.nil : Byt [] := fun x h => by cases h
theorem Byt.cons {x : Int} {l : List Int} (h0 : 0 ≤ x) (h1 : x < 256) (h : Byt l) : Byt (x :: l) := fun y hy => by
  rcases List.mem_cons.1 hy with rfl | hy
  · exact ⟨h0, h1⟩
  · exact h y hy
theorem Byt.append {a b : List Int} (ha : Byt a) (hb : Byt b) : Byt (a ++ b) := fun x hx => (List.mem_append.1 hx).elim (ha x) (hb x)
theorem Byt.take {a : List Int} (ha : Byt a) (n : Nat) : Byt (a.take n) := fun x hx => ha x (List.mem_of_mem_take hx)
theorem byt_of_wf {l : List Int} (h : ∀ x ∈ l, (Lit.int .u8 x).wf = true) : Byt l := fun x hx => by
  have : 0 ≤ x ∧ x ≤ 255 := by simpa [Lit.wf, IntKind.min, IntKind.max, IntKind.signed, IntKind.bits] using h x hx
  omega
theorem natl_byt {l : List Int} (h : Byt l) : ∀ b ∈ natl l, b < 256 := fun b hb => by
  obtain ⟨x, hx, rfl⟩ := List.mem_map.1 hb
  have := h x hx
  omega
theorem wr (x : Int) (h0 : -9223372036854775808 ≤ x) (h1 : x ≤ 9223372036854775807) : wrap64 x = x := by unfold wrap64; omega
theorem rd_at (l : List Int) (i : Nat) (h : i < l.length) : rd l (i : Int) = l[i] := by
  unfold rd
  rw [Int.toNat_natCast, List.getD_eq_getElem?_getD, List.getElem?_eq_getElem h]
  rfl
/-- all ones, exclusive-ored -/
def ones : Nat := 4294967295
def inv (r : Nat) : Nat := ones ^^^ r
theorem ones_lt : ones < 4294967296 := by unfold ones; omega
theorem inv_lt {r : Nat} (h : r < 4294967296) : inv r < 4294967296 := by
  show ones ^^^ r < 4294967296
  exact xor_lt ones_lt h
theorem xor_xor (a r : Nat) : a ^^^ (a ^^^ r) = r := by rw [← Nat.xor_assoc, Nat.xor_self, Nat.zero_xor]
theorem inv_def (r : Nat) : inv r = ones ^^^ r := rfl
theorem inv_inv (r : Nat) : inv (inv r) = r := by rw [inv_def, inv_def, xor_xor]
theorem inv_inj {a b : Nat} (h : inv a = inv b) : a = b := by rw [← inv_inv a, h, inv_inv]
theorem inv_int (r : Nat) (h : r < 4294967296) : bits .xor .u32 4294967295 (r : Int) = ((inv r : Nat) : Int) := by
  rw [show (4294967295 : Int) = ((ones : Nat) : Int) by rfl, u32_xor_nat _ r (by unfold ones; omega) h]
  rfl
def ext (s : Nat) (l : List Int) : Nat := inv (crcB (inv s) (natl l))
theorem ext_lt {s : Nat} {l : List Int} (hs : s < 4294967296) (hl : Byt l) : ext s l < 4294967296 := inv_lt (crcB_lt _ _ (inv_lt hs) (natl_byt hl))
theorem extend_loop (l : List Int) (hb : Byt l) (hl : l.length ≤ 1099511627776) : ∀ (d i k : Nat) (r : Nat), i + d = l.length → r < 4294967296 → check_Extend.l0 (k + d + 1) (r : Int) l (l.length : Int) (i : Int) = some ((inv (crcB r (natl (l.drop i))) : Nat) : Int)
  | 0, i, k, r, hi, hr => by
    obtain rfl : i = l.length := by omega
    rw [check_Extend.l0, if_neg (by omega), List.drop_length, inv_int r hr]
    rfl
  | d + 1, i, k, r, hi, hr => by
    have hil : i < l.length := by omega
    obtain ⟨b0, b1⟩ := hb _ (List.getElem_mem hil)
    have c0 : (i : Int) < (l.length : Int) := by omega
    have c1 : 0 ≤ (i : Int) := by omega
    have e5 : wrap64 ((i : Int) + 1) = ((i + 1 : Nat) : Int) := (wr _ (by omega) (by omega)).trans (by omega)
    have ht : check_take.f (r : Int) l[i] = some ((crcN 8 (r ^^^ l[i].toNat) : Nat) : Int) := by
      unfold check_take.f
      rw [if_pos ⟨by omega, by omega, b0, b1⟩, Int.toNat_natCast]
    rw [show k + (d + 1) + 1 = (k + d + 1) + 1 by omega, check_Extend.l0, if_pos c0, if_pos c1, if_pos c0, rd_at l i hil, ht, Option.bind_some, e5]
    rw [extend_loop l hb hl d (i + 1) k _ (by omega) (crcN_lt 8 (xor_lt hr (by omega)))]
    rw [List.drop_eq_getElem_cons hil]
    rfl
theorem extend_eq (k s : Nat) (l : List Int) (hs : s < 4294967296) (hb : Byt l) (hl : l.length ≤ 1099511627776) (hk : l.length + 1 ≤ k) : check_Extend.f k (s : Int) l = some ((ext s l : Nat) : Int) := by
  obtain ⟨k, rfl⟩ : ∃ m, k = m + l.length + 1 := ⟨k - l.length - 1, by omega⟩
  unfold check_Extend.f
  rw [inv_int s hs]
  have := extend_loop l hb hl l.length 0 k (inv s) (by omega) (inv_lt hs)
  rw [List.drop_zero] at this
  exact this
theorem sum_eq (k : Nat) (l : List Int) (hb : Byt l) (hl : l.length ≤ 1099511627776) (hk : l.length + 1 ≤ k) : check_Sum.f k l = some ((ext 0 l : Nat) : Int) := by
  unfold check_Sum.f
  rw [show (0 : Int) = ((0 : Nat) : Int) by rfl, extend_eq k 0 l (by omega) hb hl hk]
  rfl
/-! the reference, bit by bit -/
theorem and1 (x : Nat) (h : x < 4294967296) : bits .and .u32 (x : Int) 1 = ((x % 2 : Nat) : Int) := by
  rw [show (1 : Int) = ((1 : Nat) : Int) by rfl, u32_and_nat x 1 h (by omega)]
  congr 1
  have := Nat.and_two_pow_sub_one_eq_mod x 1
  rw [Nat.pow_one] at this
  exact this
theorem reftake_eq (r b : Nat) (hr : r < 4294967296) (hb : b < 4294967296) : moraineref02_take.f (r : Int) (b : Int) = some ((crc1 (r ^^^ (b % 2)) : Nat) : Int) := by
  have h1 : (r ^^^ b) % 2 = (r ^^^ (b % 2)) % 2 := by rw [xor_odd, xor_odd]; omega
  have h2 : (r ^^^ (b % 2)) / 2 = r / 2 := by
    rw [xor_half, show b % 2 / 2 = 0 by omega, Nat.xor_zero]
  have hd : (r : Int) / 2 = ((r / 2 : Nat) : Int) := by omega
  unfold moraineref02_take.f crc1
  rw [u32_xor_nat r b hr hb, and1 _ (xor_lt hr hb), h1, h2, hd]
  by_cases ho : (r ^^^ (b % 2)) % 2 = 1
  · rw [if_pos ho, if_pos (by omega), show (2197175160 : Int) = ((crcP : Nat) : Int) by rfl, u32_xor_nat _ _ (by omega) (by unfold crcP; omega)]
  · rw [if_neg ho, if_neg (by omega), Nat.xor_zero]
theorem crcN_bit (d r B : Nat) : crcN (d + 1) (r ^^^ B) = crcN d (crc1 (r ^^^ (B % 2)) ^^^ (B / 2)) := by
  have e2 := xor_split 1 B
  rw [Nat.pow_one] at e2
  conv => lhs; rw [← e2]
  rw [Nat.xor_comm (2 * (B / 2)), ← Nat.xor_assoc]
  simp only [crcN]
  rw [crc1_xor, crc1_double]
theorem over_inner (l : List Int) (i b : Nat) (hil : i < l.length) (hl : l.length ≤ 1099511627776) (hx : rd l (i : Int) = (b : Int)) (hb : b < 256) : ∀ (d j k : Nat) (r : Nat), j + d = 8 → r < 4294967296 →
    moraineref02_over.l1 (k + d + 1) (r : Int) l (i : Int) (j : Int) = moraineref02_over.l0 k ((crcN d (r ^^^ (b / 2 ^ j)) : Nat) : Int) l ((i + 1 : Nat) : Int)
  | 0, j, k, r, hj, hr => by
    obtain rfl : j = 8 := by omega
    have e5 : wrap64 ((i : Int) + 1) = ((i + 1 : Nat) : Int) := (wr _ (by omega) (by omega)).trans (by omega)
    rw [moraineref02_over.l1, if_neg (by omega), e5, Nat.div_eq_of_lt (by omega), Nat.xor_zero]
    rfl
  | d + 1, j, k, r, hj, hr => by
    have c0 : (j : Int) < 8 := by omega
    have c1 : 0 ≤ (i : Int) := by omega
    have c2 : (i : Int) < (l.length : Int) := by omega
    have c3 : 0 ≤ (j : Int) := by omega
    have e5 : wrap64 ((j : Int) + 1) = ((j + 1 : Nat) : Int) := (wr _ (by omega) (by omega)).trans (by omega)
    have hle : b / 2 ^ j ≤ b := Nat.div_le_self _ _
    have es : shr .u32 ((b : Int) % 4294967296) (j : Int) = ((b / 2 ^ j : Nat) : Int) := by
      unfold shr
      rw [Int.toNat_natCast, Nat.min_eq_left (by show j ≤ 32; omega), show (b : Int) % 4294967296 = (b : Int) by omega]
      push_cast
      rfl
    rw [show k + (d + 1) + 1 = (k + d + 1) + 1 by omega, moraineref02_over.l1, if_pos c0, if_pos c1, if_pos c2, if_pos c3, hx, e5, es, reftake_eq r _ hr (by omega), Option.bind_some]
    rw [over_inner l i b hil hl hx hb d (j + 1) k _ (by omega) (crc1_lt (xor_lt hr (by omega))), crcN_bit d r, Nat.div_div_eq_div_mul, Nat.pow_succ]
theorem over_loop (l : List Int) (hb : Byt l) (hl : l.length ≤ 1099511627776) : ∀ (d i k : Nat) (r : Nat), i + d = l.length → r < 4294967296 → moraineref02_over.l0 (k + 10 * d + 1) (r : Int) l (i : Int) = some ((crcB r (natl (l.drop i)) : Nat) : Int)
  | 0, i, k, r, hi, hr => by
    obtain rfl : i = l.length := by omega
    rw [moraineref02_over.l0, if_neg (by omega), List.drop_length]
    rfl
  | d + 1, i, k, r, hi, hr => by
    have hil : i < l.length := by omega
    obtain ⟨b0, b1⟩ := hb _ (List.getElem_mem hil)
    obtain ⟨b, hbb⟩ := Int.eq_ofNat_of_zero_le b0
    have c0 : (i : Int) < (l.length : Int) := by omega
    have hin := over_inner l i b hil hl ((rd_at l i hil).trans hbb) (by omega) 8 0 (k + 10 * d + 1) r (by omega) hr
    rw [show ((0 : Nat) : Int) = 0 by rfl, Nat.pow_zero, Nat.div_one] at hin
    rw [show k + 10 * (d + 1) + 1 = (k + 10 * d + 1 + 8 + 1) + 1 by omega, moraineref02_over.l0, if_pos c0, hin]
    rw [over_loop l hb hl d (i + 1) k _ (by omega) (crcN_lt 8 (xor_lt hr (by omega))), List.drop_eq_getElem_cons hil]
    unfold natl
    rw [List.map_cons, crcB_cons, hbb]
    rfl
theorem over_eq (k r : Nat) (l : List Int) (hr : r < 4294967296) (hb : Byt l) (hl : l.length ≤ 1099511627776) (hk : 10 * l.length + 1 ≤ k) : moraineref02_over.f k (r : Int) l = some ((crcB r (natl l) : Nat) : Int) := by
  obtain ⟨k, rfl⟩ : ∃ m, k = m + 10 * l.length + 1 := ⟨k - 10 * l.length - 1, by omega⟩
  unfold moraineref02_over.f
  have := over_loop l hb hl l.length 0 k r (by omega) hr
  rw [List.drop_zero] at this
  exact this
theorem ext_append (s : Nat) (a b : List Int) : ext s (a ++ b) = ext (ext s a) b := by
  unfold ext natl
  rw [List.map_append, crcB_append, inv_inv]
theorem refextend_eq (k s : Nat) (l : List Int) (hs : s < 4294967296) (hb : Byt l) (hl : l.length ≤ 1099511627776) (hk : 10 * l.length + 1 ≤ k) : moraineref02_Extend.f k (s : Int) l = some ((ext s l : Nat) : Int) := by
  unfold moraineref02_Extend.f
  rw [inv_int s hs, over_eq k _ l (inv_lt hs) hb hl hk, Option.bind_some, inv_int _ (crcB_lt _ _ (inv_lt hs) (natl_byt hb))]
  rfl
theorem refsum_eq (k : Nat) (l : List Int) (hb : Byt l) (hl : l.length ≤ 1099511627776) (hk : 10 * l.length + 1 ≤ k) : moraineref02_Sum.f k l = some ((ext 0 l : Nat) : Int) := by
  unfold moraineref02_Sum.f
  rw [show (0 : Int) = ((0 : Nat) : Int) by rfl, refextend_eq k 0 l (by omega) hb hl hk]
  rfl

/-! what is kept of a sum -/
theorem join_nat (i h l : Nat) (hl : l < 2 ^ i) (hs : 2 ^ i * h + l < 4294967296) : bits .or .u32 (l : Int) ((2 ^ i * h : Nat) : Int) = ((2 ^ i * h + l : Nat) : Int) := by
  rw [u32_or_nat l (2 ^ i * h) (by omega) (by omega), Nat.or_comm, ← Nat.two_pow_add_eq_or_of_lt hl h]
theorem join17 (hi lo : Int) (h0 : 0 ≤ lo) (h1 : lo < 131072) (h2 : 0 ≤ hi) (h3 : 131072 * hi + lo < 4294967296) : bits .or .u32 lo (131072 * hi) = 131072 * hi + lo := by
  obtain ⟨l, rfl⟩ := Int.eq_ofNat_of_zero_le h0
  obtain ⟨h, rfl⟩ := Int.eq_ofNat_of_zero_le h2
  have := join_nat 17 h l (by omega) (by omega)
  rw [show (131072 * (h : Int)) = ((2 ^ 17 * h : Nat) : Int) by omega, this]
  omega
def maskI (x : Int) : Int := (x / 32768 + 131072 * (x % 32768) + 2726488792) % 4294967296
def maskN (x : Nat) : Nat := (maskI (x : Int)).toNat
theorem maskI_range (x : Int) : 0 ≤ maskI x ∧ maskI x < 4294967296 := by unfold maskI; omega
theorem maskN_int (x : Nat) : ((maskN x : Nat) : Int) = maskI (x : Int) := by
  have := maskI_range (x : Int)
  unfold maskN
  omega
theorem maskN_lt (x : Nat) : maskN x < 4294967296 := by
  have := maskN_int x
  have := maskI_range (x : Int)
  omega
theorem maskI_inj {x y : Int} (hx0 : 0 ≤ x) (hx : x < 4294967296) (hy0 : 0 ≤ y) (hy : y < 4294967296) (h : maskI x = maskI y) : x = y := by
  have h1 : 0 ≤ x / 32768 + 131072 * (x % 32768) ∧ x / 32768 + 131072 * (x % 32768) < 4294967296 := by omega
  have h2 : 0 ≤ y / 32768 + 131072 * (y % 32768) ∧ y / 32768 + 131072 * (y % 32768) < 4294967296 := by omega
  have h3 : x / 32768 + 131072 * (x % 32768) = y / 32768 + 131072 * (y % 32768) := by
    unfold maskI at h
    generalize x / 32768 + 131072 * (x % 32768) = a at *
    generalize y / 32768 + 131072 * (y % 32768) = b at *
    omega
  clear h h1 h2
  have h4 : x / 32768 = y / 32768 := by omega
  have h5 : x % 32768 = y % 32768 := by omega
  omega
theorem maskN_inj {x y : Nat} (hx : x < 4294967296) (hy : y < 4294967296) (h : maskN x = maskN y) : x = y := by
  have := maskI_inj (x := (x : Int)) (y := (y : Int)) (by omega) (by omega) (by omega) (by omega) (by rw [← maskN_int, ← maskN_int, h])
  omega
theorem mask_eq (x : Nat) (h1 : x < 4294967296) : check_Mask.f (x : Int) = some ((maskN x : Nat) : Int) := by
  rw [maskN_int]
  unfold check_Mask.f maskI
  have e : (x : Int) * 131072 % 4294967296 = 131072 * ((x : Int) % 32768) := by omega
  rw [e, join17 ((x : Int) % 32768) ((x : Int) / 32768) (by omega) (by omega) (by omega) (by omega), Int.add_comm (131072 * _)]
theorem refmask_eq (x : Nat) (h1 : x < 4294967296) : moraineref02_Mask.f (x : Int) = some ((maskN x : Nat) : Int) := (rfl : moraineref02_Mask.f (x : Int) = check_Mask.f (x : Int)).trans (mask_eq x h1)
/-- a piece's sum -/
def sumN (kind : Int) (d : List Int) : Nat := maskN (ext 0 (kind :: d))
theorem sumN_lt (kind : Int) (d : List Int) : sumN kind d < 4294967296 := maskN_lt _
theorem sumOf_eq (k : Nat) (kind : Int) (d : List Int) (hk0 : 0 ≤ kind) (hk1 : kind < 256) (hb : Byt d) (hl : d.length ≤ 1099511627776) (hk : d.length + 2 ≤ k) : journal_sumOf.f k kind d = some ((sumN kind d : Nat) : Int) := by
  unfold journal_sumOf.f
  have hb1 : Byt [kind] := Byt.cons hk0 hk1 Byt.nil
  rw [sum_eq k [kind] hb1 (by simp) (by simp; omega), Option.bind_some, extend_eq k _ d (ext_lt (by omega) hb1) hb hl (by omega), Option.bind_some, mask_eq _ (ext_lt (ext_lt (by omega) hb1) hb), Option.bind_some]
  unfold sumN
  rw [show kind :: d = [kind] ++ d from rfl, ext_append]
theorem refsumOf_eq (k : Nat) (kind : Int) (d : List Int) (hk0 : 0 ≤ kind) (hk1 : kind < 256) (hb : Byt d) (hl : d.length ≤ 1099511627775) (hk : 10 * d.length + 11 ≤ k) : ((moraineref02_Sum.f k (kind :: d)).bind fun t => moraineref02_Mask.f t) = some ((sumN kind d : Nat) : Int) := by
  have hb1 : Byt (kind :: d) := Byt.cons hk0 hk1 hb
  rw [refsum_eq k _ hb1 (by simp; omega) (by simp; omega), Option.bind_some, refmask_eq _ (ext_lt (by omega) hb1)]
  rfl

end Go.Proofs.YtmpkigambfghgaaDoor.G
