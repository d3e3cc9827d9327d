/- Contracts typed by hand: plain laws of what is put and read (of chapter 01's) -/
import Derived.Test.YtdoolmomkffdaaaProg
import Derived.Below
import Derived.Deep.Draws
import Derived.Deep.AppendLies
import Derived.Maps.AppendAt
import Derived.OwnWalk
import Derived.Laws.BytesArg
import Derived.Laws.MakeOwn
import Derived.Laws.OwnMore
import Derived.Deep.OwnRows
import Derived.Tactics
import Derived.Lib.ConvBytes
import Derived.Laws.Slices
import Derived.WalkKit
import Derived.KernelRfl
import Derived.RowKit3
import Derived.Deep.LoopGhost
import Derived.Deep.QuietTactic
import Derived.BigQuiet
import Derived.WideLaws
import Derived.Deep.DeepCutAuto
import Derived.Deep.CutBlock
import Derived.Deep.RegionHeld3
import Derived.Laws.Rows
import Derived.Lib.AppendStr
import Derived.ArgAppend
import Derived.Laws.IdiomCopy
import Derived.OrdersHeld
import Derived.Laws.BitsLemmas
import Derived.RowKit
import Derived.Test.YtdoolmomkffdaaaWWords
import Derived.Test.YtdoolmomkffdaaaWLast
import Derived.Test.YtdoolmomkffdaaaWTab
import Derived.Test.YtdoolmomkffdaaaWFour
import Derived.Test.YtdoolmomkffdaaaWQPut
import Derived.Test.YtdoolmomkffdaaaWApart
import Derived.Test.YtdoolmomkffdaaaWArr
import Derived.Test.YtdoolmomkffdaaaWZeros
import Derived.Test.YtdoolmomkffdaaaWFoot
import Derived.Test.YtdoolmomkffdaaaWKept
import Derived.Test.YtdoolmomkffdaaaWShare
import Derived.Test.YtdoolmomkffdaaaWN
import Derived.Test.YtdoolmomkffdaaaWFootNe
import Derived.Test.YtdoolmomkffdaaaWAt
import Derived.Test.YtdoolmomkffdaaaWEqStruct
import Derived.Test.YtdoolmomkffdaaaWRepsOne
import Derived.Test.YtdoolmomkffdaaaWInv
import Derived.Test.YtdoolmomkffdaaaWInvWords
import Derived.Test.YtdoolmomkffdaaaWGuard
import Derived.Test.YtdoolmomkffdaaaWNEv
import Derived.Test.YtdoolmomkffdaaaWMore
import Derived.Test.YtdoolmomkffdaaaManGrown
import Derived.Laws.BitsAllLaws
import Derived.Test.YtdoolmomkffdaaaGx24
import Derived.Test.YtdoolmomkffdaaaGx29
import Derived.Test.YtdoolmomkffdaaaGx25
import Derived.Test.YtdoolmomkffdaaaGx30
import Derived.Test.YtdoolmomkffdaaaGx26
import Derived.Test.YtdoolmomkffdaaaGx32
namespace Go.Proofs.Ytdoolmomkffdaaa.G
open Go.RowKit Go.Proofs.YtdoolmomkffdaaaW.PrintWords Go.Proofs.YtdoolmomkffdaaaW.PrintLast Go.Proofs.YtdoolmomkffdaaaW.PrintMore
attribute [local go_sem] max2_int min2_int max_two min_two max_three min_three max_four min_four
set_option linter.unusedVariables false
set_option linter.unusedSimpArgs false

/-! plain laws of what is put and read (of chapter 01's) -/
def Bytes (l : List Int) : Prop := ∀ x ∈ l, 0 ≤ x ∧ x ≤ 255
theorem bytes_of_wf {l : List Int} (h : ∀ x ∈ l, (Lit.int .u8 x).wf = true) : Bytes l := by
  intro x hx
  simpa [Lit.wf, IntKind.min, IntKind.max, IntKind.signed, IntKind.bits] using h x hx
theorem Bytes.drop {l : List Int} (h : Bytes l) (n : Nat) : Bytes (l.drop n) := fun x hx => h x (List.mem_of_mem_drop hx)
theorem Bytes.take {l : List Int} (h : Bytes l) (n : Nat) : Bytes (l.take n) := fun x hx => h x (List.mem_of_mem_take hx)
theorem Bytes.append {l r : List Int} (h : Bytes l) (k : Bytes r) : Bytes (l ++ r) := fun x hx => (List.mem_append.1 hx).elim (h x) (k x)
/-- bits above m and bits below: or is the sum -/
theorem or_pow (m : Nat) (c v : Nat) (hv : v < 2 ^ m) (hc : 2 ^ m * c + v < 18446744073709551616) : bits .or .u64 (v : Int) ((2 ^ m * c : Nat) : Int) = ((2 ^ m * c + v : Nat) : Int) := by
  rw [u64_or_nat v (2 ^ m * c) (by omega) (by omega), Nat.or_comm, ← Nat.two_pow_add_eq_or_of_lt hv c]
theorem pow_room (m p c v : Nat) (hc : c < 2 ^ p) (hv : v < 2 ^ m) (hp : m + p ≤ 64) : 2 ^ m * c + v < 2 ^ (m + p) ∧ 2 ^ m * c + v < 18446744073709551616 := by
  have h1 : 2 ^ m * (c + 1) ≤ 2 ^ m * 2 ^ p := Nat.mul_le_mul_left _ hc
  rw [← Nat.pow_add, Nat.mul_add, Nat.mul_one] at h1
  have h2 : 2 ^ (m + p) ≤ 2 ^ 64 := Nat.pow_le_pow_right (by decide) hp
  have h3 : (2 : Nat) ^ 64 = 18446744073709551616 := by decide
  omega
theorem and127 (c : Int) (h0 : 0 ≤ c) (h1 : c ≤ 255) : bits .and .u8 c 127 = c % 128 := by
  rw [u8_and c 127 h0 (by omega) (by omega) (by omega)]
  have : c.toNat &&& (127 : Int).toNat = c.toNat % 2 ^ 7 := Nat.and_two_pow_sub_one_eq_mod c.toNat 7
  rw [this]; omega
/-- a group of seven bits, put above those that are there -/
theorem group (v c : Int) (j p : Nat) (v0 : 0 ≤ v) (v1 : v < 2 ^ (7 * j)) (c0 : 0 ≤ c) (c1 : c < 2 ^ p) (hp : 7 * j + p ≤ 64) :
    bits .or .u64 v (IntKind.u64.wrap (IntKind.u64.wrap c * 2 ^ (7 * j))) = v + c * 2 ^ (7 * j) ∧ IntKind.u64.wrap (v + shl .u64 (IntKind.u64.wrap c) (7 * j : Nat)) = v + c * 2 ^ (7 * j) ∧ 0 ≤ v + c * 2 ^ (7 * j) ∧ v + c * 2 ^ (7 * j) < 2 ^ (7 * j + p) ∧ v + c * 2 ^ (7 * j) < 18446744073709551616 := by
  obtain ⟨v, rfl⟩ := Int.eq_ofNat_of_zero_le v0
  obtain ⟨c, rfl⟩ := Int.eq_ofNat_of_zero_le c0
  have hv : v < 2 ^ (7 * j) := by exact_mod_cast v1
  have hc : c < 2 ^ p := by exact_mod_cast c1
  have hr := pow_room (7 * j) p c v hc hv hp
  have hc2 : c < 18446744073709551616 := by
    have h2 : 2 ^ p ≤ 2 ^ 64 := Nat.pow_le_pow_right (by decide) (by omega)
    have h3 : (2 : Nat) ^ 64 = 18446744073709551616 := by decide
    omega
  have e1 : IntKind.u64.wrap (c : Int) = (c : Int) := by rw [Go.IntKind.wrap_u64]; omega
  have e2 : ((c : Int) * 2 ^ (7 * j)) = ((2 ^ (7 * j) * c : Nat) : Int) := by rw [Int.natCast_mul, Int.natCast_pow, Int.mul_comm]; rfl
  have e3 : IntKind.u64.wrap ((2 ^ (7 * j) * c : Nat) : Int) = ((2 ^ (7 * j) * c : Nat) : Int) := by rw [Go.IntKind.wrap_u64]; omega
  have e4 : shl .u64 (c : Int) ((7 * j : Nat) : Int) = ((2 ^ (7 * j) * c : Nat) : Int) := by
    unfold shl
    rw [Int.toNat_natCast, Nat.min_eq_left (show 7 * j ≤ IntKind.u64.bits by simp [IntKind.bits]; omega), e2, e3]
  rw [e1, e2, e3, e4, or_pow _ _ _ hv hr.2]
  refine ⟨by omega, ?_, by omega, ?_, ?_⟩
  · rw [Go.IntKind.wrap_u64]; omega
  · have : ((2 ^ (7 * j) * c + v : Nat) : Int) < ((2 ^ (7 * j + p) : Nat) : Int) := by exact_mod_cast hr.1
    rw [Int.natCast_add, Int.natCast_pow] at this
    have e5 : ((2 : Nat) : Int) = 2 := rfl
    rw [e5] at this
    omega
  · omega
def Fits (v : Int) (j : Nat) : Prop := 0 ≤ v ∧ v < 2 ^ (7 * j)
def up (v c : Int) (j : Nat) : Int := v + c * 2 ^ (7 * j)
theorem fits0 : Fits 0 0 := ⟨by decide, by decide⟩
theorem group7 {v c : Int} {j : Nat} (h : Fits v j) (hj : j ≤ 8) (c0 : 0 ≤ c) (c1 : c < 128) :
    bits .or .u64 v (IntKind.u64.wrap (IntKind.u64.wrap c * 2 ^ (7 * j))) = up v c j ∧ IntKind.u64.wrap (v + shl .u64 (IntKind.u64.wrap c) (7 * j : Nat)) = up v c j ∧ Fits (up v c j) (j + 1) ∧ 0 ≤ up v c j ∧ up v c j < 18446744073709551616 := by
  have hg := group v c j 7 h.1 h.2 c0 c1 (by omega)
  exact ⟨hg.1, hg.2.1, ⟨hg.2.2.1, hg.2.2.2.1⟩, hg.2.2.1, hg.2.2.2.2⟩
theorem group1 {v c : Int} {j : Nat} (h : Fits v j) (hj : j = 9) (c0 : 0 ≤ c) (c1 : c < 2) :
    bits .or .u64 v (IntKind.u64.wrap (IntKind.u64.wrap c * 2 ^ (7 * j))) = up v c j ∧ IntKind.u64.wrap (v + shl .u64 (IntKind.u64.wrap c) (7 * j : Nat)) = up v c j ∧ 0 ≤ up v c j ∧ up v c j < 18446744073709551616 := by
  have hg := group v c j 1 h.1 h.2 c0 c1 (by omega)
  exact ⟨hg.1, hg.2.1, hg.2.2.1, hg.2.2.2.2⟩
def Told (at_ : Int) (j n : Nat) (r : Int × Int × Int) : Prop :=
  (r.2.2 = 0 ∧ 0 ≤ r.1 ∧ r.1 < 18446744073709551616 ∧ at_ + j + 1 ≤ r.2.1 ∧ r.2.1 ≤ at_ + j + n) ∨ (r.2.2 = 10 ∧ r.1 = 0 ∧ r.2.1 = 0) ∨ (r.2.2 = 11 ∧ r.1 = 0 ∧ r.2.1 = 0)
theorem rd_byte {l : List Int} (hb : Bytes l) (i : Int) (h0 : 0 ≤ i) (h1 : i < l.length) : 0 ≤ rd l i ∧ rd l i ≤ 255 := by
  obtain ⟨n, rfl⟩ := Int.eq_ofNat_of_zero_le h0
  have hx : n < l.length := by omega
  have e : rd l (n : Int) = l[n] := by simp [rd, List.getD_eq_getElem?_getD, List.getElem?_eq_getElem hx]
  rw [e]
  exact hb _ (List.getElem_mem hx)
/-- the number of bytes, the lowest first -/
def le : List Int → Int
  | [] => 0
  | b :: r => b + 256 * le r
theorem le_range : ∀ (l : List Int), Bytes l → 0 ≤ le l ∧ le l < 2 ^ (8 * l.length)
  | [], _ => ⟨by decide, by decide⟩
  | b :: r, h => by
    have hb := h b List.mem_cons_self
    have ih := le_range r (fun x hx => h x (List.mem_cons_of_mem _ hx))
    have e : (2 : Int) ^ (8 * (b :: r).length) = 256 * 2 ^ (8 * r.length) := by
      rw [show 8 * (b :: r).length = 8 + 8 * r.length by simp; omega, Int.pow_add]
      rfl
    rw [e]
    simp only [le]
    generalize (2 : Int) ^ (8 * r.length) = p at *
    generalize le r = q at *
    omega
theorem le_small (l : List Int) (h : Bytes l) (n : Nat) (hn : l.length ≤ n) (h8 : n ≤ 8) : 0 ≤ le l ∧ le l < 18446744073709551616 := by
  have hr := le_range l h
  have h1 : (2 : Nat) ^ (8 * l.length) ≤ 2 ^ 64 := Nat.pow_le_pow_right (by decide) (by omega)
  have h2 : (2 : Nat) ^ 64 = 18446744073709551616 := by decide
  have h3 : (((2 : Nat) ^ (8 * l.length) : Nat) : Int) = (2 : Int) ^ (8 * l.length) := by rw [Int.natCast_pow]; rfl
  rw [← h3] at hr
  rw [h2] at h1
  generalize (2 : Nat) ^ (8 * l.length) = p at *
  omega
theorem le_snoc : ∀ (l : List Int) (b : Int), le (l ++ [b]) = le l + b * 2 ^ (8 * l.length)
  | [], b => by simp [le]
  | c :: r, b => by
    have ih := le_snoc r b
    have e : (2 : Int) ^ (8 * (c :: r).length) = 256 * 2 ^ (8 * r.length) := by
      rw [show 8 * (c :: r).length = 8 + 8 * r.length by simp; omega, Int.pow_add]
      rfl
    rw [e]
    simp only [le, List.cons_append]
    rw [ih, Int.mul_add]
    have : 256 * (b * 2 ^ (8 * r.length)) = b * (256 * 2 ^ (8 * r.length)) := by
      rw [← Int.mul_assoc, ← Int.mul_assoc, Int.mul_comm 256 b]
    rw [this]; omega
def seg (l : List Int) (p n : Nat) : List Int := (l.drop p).take n
theorem seg_bytes {l : List Int} (h : Bytes l) (p n : Nat) : Bytes (seg l p n) := (h.drop p).take n
theorem seg_len (l : List Int) (p n : Nat) (h : p + n ≤ l.length) : (seg l p n).length = n := by unfold seg; rw [List.length_take, List.length_drop]; omega
theorem rd_get (l : List Int) (n : Nat) (h : n < l.length) : rd l (n : Int) = l[n] := by simp [rd, List.getD_eq_getElem?_getD, List.getElem?_eq_getElem h]
theorem seg_snoc (l : List Int) (p n : Nat) (h : p + n < l.length) : seg l p (n + 1) = seg l p n ++ [rd l ((p + n : Nat) : Int)] := by
  unfold seg
  have hd : n < (l.drop p).length := by rw [List.length_drop]; omega
  rw [List.take_succ_eq_append_getElem hd, rd_get l (p + n) h, List.getElem_drop]
theorem seg_cons (l : List Int) (p n : Nat) (h : p < l.length) : seg l p (n + 1) = rd l ((p : Nat) : Int) :: seg l (p + 1) n := by
  unfold seg
  rw [List.drop_eq_getElem_cons h, rd_get l p h, List.take_succ_cons]
theorem or_byte (v c : Int) (i : Nat) (l : List Int) (hv : v = le l) (hl : l.length = i) (hb : Bytes l) (hi : i ≤ 7) (c0 : 0 ≤ c) (c1 : c ≤ 255) :
    bits .or .u64 v (shl .u64 (IntKind.u64.wrap c) (8 * i : Nat)) = v + c * 2 ^ (8 * i) := by
  have hr := le_range l hb
  rw [← hv, hl] at hr
  obtain ⟨v0, v1⟩ := hr
  clear hv
  obtain ⟨v, rfl⟩ := Int.eq_ofNat_of_zero_le v0
  obtain ⟨c, rfl⟩ := Int.eq_ofNat_of_zero_le c0
  have hv : v < 2 ^ (8 * i) := by exact_mod_cast v1
  have hr := pow_room (8 * i) 8 c v (by omega) hv (by omega)
  have e1 : IntKind.u64.wrap (c : Int) = (c : Int) := by rw [Go.IntKind.wrap_u64]; omega
  have e2 : ((c : Int) * 2 ^ (8 * i)) = ((2 ^ (8 * i) * c : Nat) : Int) := by rw [Int.natCast_mul, Int.natCast_pow, Int.mul_comm]; rfl
  have e3 : IntKind.u64.wrap ((2 ^ (8 * i) * c : Nat) : Int) = ((2 ^ (8 * i) * c : Nat) : Int) := by rw [Go.IntKind.wrap_u64]; omega
  have e4 : shl .u64 (c : Int) ((8 * i : Nat) : Int) = ((2 ^ (8 * i) * c : Nat) : Int) := by
    unfold shl
    rw [Int.toNat_natCast, Nat.min_eq_left (show 8 * i ≤ IntKind.u64.bits by simp [IntKind.bits]; omega), e2, e3]
  rw [e1, e4, or_pow _ _ _ hv hr.2, e2]
  omega
theorem fixed_loop (l : List Int) (p n : Nat) (hb : Bytes l) (hl : l.length ≤ 140737488355328) (hn : n ≤ 8) (hp : p + n ≤ l.length) : ∀ (d k i : Nat), i + d = n → d + 1 ≤ k →
    codec_read.l0 k l p n (le (seg l p i)) n i = some (le (seg l p n), (p : Int) + (n : Int), 0) := by
  intro d
  induction d with
  | zero =>
    intro k i hi hk
    obtain ⟨k, rfl⟩ : ∃ m, k = m + 1 := ⟨k - 1, by omega⟩
    have w : wrap64 ((p : Int) + n) = p + n := by unfold wrap64; omega
    simp only [codec_read.l0, w]
    rw [if_neg (by omega), show i = n by omega]
  | succ d ih =>
    intro k i hi hk
    obtain ⟨k, rfl⟩ : ∃ m, k = m + 1 := ⟨k - 1, by omega⟩
    have w1 : wrap64 ((p : Int) + i) = ((p + i : Nat) : Int) := by unfold wrap64; omega
    have w2 : wrap64 (8 * (i : Int)) = ((8 * i : Nat) : Int) := by unfold wrap64; omega
    have w3 : wrap64 ((i : Int) + 1) = ((i + 1 : Nat) : Int) := by unfold wrap64; omega
    have hc := rd_byte hb ((p + i : Nat) : Int) (by omega) (by omega)
    simp only [codec_read.l0, w1, w2, w3]
    rw [if_pos (by omega), if_pos (by omega), if_pos (by omega), if_pos (by omega)]
    rw [or_byte (le (seg l p i)) (rd l ((p + i : Nat) : Int)) i (seg l p i) rfl (seg_len l p i (by omega)) (seg_bytes hb p i) (by omega) hc.1 hc.2]
    have := ih k (i + 1) (by omega) (by omega)
    rw [seg_snoc l p i (by omega), le_snoc, seg_len l p i (by omega)] at this
    exact this
theorem reffixed_loop (l : List Int) (p n : Nat) (hb : Bytes l) (hl : l.length ≤ 140737488355328) (hn : n ≤ 8) (hp : p + n ≤ l.length) : ∀ (i k : Nat), i ≤ n → i + 1 ≤ k →
    moraineref01_ReadFixed.l0 k l p n (le (seg l (p + i) (n - i))) ((i : Int) - 1) = some (le (seg l p n), (p : Int) + (n : Int), 0) := by
  intro i
  induction i with
  | zero =>
    intro k _ hk
    obtain ⟨k, rfl⟩ : ∃ m, k = m + 1 := ⟨k - 1, by omega⟩
    have w : wrap64 ((p : Int) + n) = p + n := by unfold wrap64; omega
    simp only [moraineref01_ReadFixed.l0, w]
    rw [if_neg (by omega)]
    simp
  | succ i ih =>
    intro k hi hk
    obtain ⟨k, rfl⟩ : ∃ m, k = m + 1 := ⟨k - 1, by omega⟩
    have e0 : ((i + 1 : Nat) : Int) - 1 = (i : Int) := by omega
    have w1 : wrap64 ((p : Int) + i) = ((p + i : Nat) : Int) := by unfold wrap64; omega
    have w2 : wrap64 ((i : Int) - 1) = (i : Int) - 1 := by unfold wrap64; omega
    have hc := rd_byte hb ((p + i : Nat) : Int) (by omega) (by omega)
    have hs := seg_cons l (p + i) (n - (i + 1)) (by omega)
    rw [show n - (i + 1) + 1 = n - i by omega] at hs
    have hv := le_small (seg l (p + i) (n - i)) (seg_bytes hb _ _) 8 (by unfold seg; rw [List.length_take]; omega) (by omega)
    have hv2 := le_small (seg l (p + i + 1) (n - (i + 1))) (seg_bytes hb _ _) 8 (by unfold seg; rw [List.length_take]; omega) (by omega)
    have := ih k (by omega) (by omega)
    rw [hs] at hv this
    simp only [le] at hv this
    rw [e0]
    simp only [moraineref01_ReadFixed.l0, w1, w2]
    rw [if_pos (by omega), if_pos (by omega), if_pos (by omega)]
    rw [show p + (i + 1) = p + i + 1 by omega]
    have e : IntKind.u64.wrap (IntKind.u64.wrap (le (seg l (p + i + 1) (n - (i + 1))) * 256) + IntKind.u64.wrap (rd l ((p + i : Nat) : Int))) = rd l ((p + i : Nat) : Int) + 256 * le (seg l (p + i + 1) (n - (i + 1))) := by
      rw [Go.IntKind.wrap_u64, Go.IntKind.wrap_u64, Go.IntKind.wrap_u64]
      omega
    rw [e]
    exact this
def fixv (l : List Int) (at_ : Int) (n : Nat) : Int × Int × Int := if at_ < 0 then (0, 0, 2) else if at_ > (l.length : Int) then (0, 0, 2) else if (l.length : Int) - at_ < n then (0, 0, 10) else (le (seg l at_.toNat n), at_ + n, 0)
theorem fixed_eq (l : List Int) (at_ : Int) (n k : Nat) (hb : Bytes l) (hl : l.length ≤ 140737488355328) (hn : n ≤ 8) (hk : 10 ≤ k) : codec_read.f k l at_ n = some (fixv l at_ n) := by
  obtain ⟨k, rfl⟩ : ∃ m, k = m + 1 := ⟨k - 1, by omega⟩
  unfold codec_read.f fixv
  by_cases h0 : at_ < 0
  · rw [if_pos h0, if_pos h0]; simp only [codec_read.j0, if_true]
  · rw [if_neg h0, if_neg h0]
    by_cases h1 : at_ > (l.length : Int)
    · rw [if_pos h1, decide_eq_true h1]; simp only [codec_read.j0, if_true]
    · rw [if_neg h1, decide_eq_false h1]
      have w : wrap64 ((l.length : Int) - at_) = (l.length : Int) - at_ := by unfold wrap64; omega
      simp only [codec_read.j0, Bool.false_eq_true, if_false, w]
      by_cases h2 : (l.length : Int) - at_ < n
      · rw [if_pos h2, if_pos h2]
      · rw [if_neg h2, if_neg h2]
        obtain ⟨p, rfl⟩ := Int.eq_ofNat_of_zero_le (show 0 ≤ at_ by omega)
        have := fixed_loop l p n hb hl hn (by omega) n k 0 (by omega) (by omega)
        rw [show seg l p 0 = [] by simp [seg]] at this
        rw [Int.toNat_natCast]
        exact this
theorem reffixed_eq (l : List Int) (at_ : Int) (n k : Nat) (hb : Bytes l) (hl : l.length ≤ 140737488355328) (hn : n ≤ 8) (hk : 10 ≤ k) : moraineref01_ReadFixed.f k l at_ n = some (fixv l at_ n) := by
  obtain ⟨k, rfl⟩ : ∃ m, k = m + 1 := ⟨k - 1, by omega⟩
  unfold moraineref01_ReadFixed.f fixv
  by_cases h0 : at_ < 0
  · rw [if_pos h0, if_pos h0]; simp only [moraineref01_ReadFixed.j0, if_true]
  · rw [if_neg h0, if_neg h0]
    by_cases h1 : at_ > (l.length : Int)
    · rw [if_pos h1, decide_eq_true h1]; simp only [moraineref01_ReadFixed.j0, if_true]
    · rw [if_neg h1, decide_eq_false h1]
      have w : wrap64 ((l.length : Int) - at_) = (l.length : Int) - at_ := by unfold wrap64; omega
      have w2 : wrap64 ((n : Int) - 1) = (n : Int) - 1 := by unfold wrap64; omega
      simp only [moraineref01_ReadFixed.j0, Bool.false_eq_true, if_false, w, w2]
      by_cases h2 : (l.length : Int) - at_ < n
      · rw [if_pos h2, if_pos h2]
      · rw [if_neg h2, if_neg h2]
        obtain ⟨p, rfl⟩ := Int.eq_ofNat_of_zero_le (show 0 ≤ at_ by omega)
        have := reffixed_loop l p n hb hl hn (by omega) n k (by omega) (by omega)
        rw [show n - n = 0 by omega, show seg l (p + n) 0 = [] by simp [seg]] at this
        rw [Int.toNat_natCast]
        exact this
theorem fixv_small (l : List Int) (at_ : Int) (n : Nat) (hb : Bytes l) (hn : n ≤ 8) : 0 ≤ (fixv l at_ n).1 ∧ (fixv l at_ n).1 < 18446744073709551616 := by
  unfold fixv
  split
  · simp
  · split
    · simp
    · split
      · simp
      · exact le_small _ (seg_bytes hb _ _) 8 (by unfold seg; rw [List.length_take]; omega) (by omega)
theorem fixv_small4 (l : List Int) (at_ : Int) (hb : Bytes l) : 0 ≤ (fixv l at_ 4).1 ∧ (fixv l at_ 4).1 < 4294967296 := by
  unfold fixv
  split
  · simp
  · split
    · simp
    · split
      · simp
      · have hr := le_range (seg l at_.toNat 4) (seg_bytes hb _ _)
        rw [seg_len l _ _ (by omega)] at hr
        exact hr

def encF : Nat → Int → List Int
  | 0, v => [v % 256]
  | f + 1, v => if 128 ≤ v then (v % 128 + 128) :: encF f (v / 128) else [v % 256]
def enc (v : Int) : List Int := encF 9 v
def Small (f : Nat) (v : Int) : Prop := 0 ≤ v ∧ v < 128 ^ (f + 1)
theorem small9 (v : Int) (h0 : 0 ≤ v) (h1 : v < 18446744073709551616) : Small 9 v := by
  refine ⟨h0, ?_⟩
  have : (128 : Int) ^ (9 + 1) = 1180591620717411303424 := by decide
  rw [this]; omega
theorem small_div {f : Nat} {v : Int} (h : Small (f + 1) v) : Small f (v / 128) := by
  obtain ⟨h0, h1⟩ := h
  refine ⟨by omega, ?_⟩
  have e : (128 : Int) ^ (f + 1 + 1) = 128 ^ (f + 1) * 128 := Int.pow_succ 128 (f + 1)
  rw [e] at h1
  generalize (128 : Int) ^ (f + 1) = p at *
  omega
theorem small_zero {v : Int} (h : Small 0 v) : 0 ≤ v ∧ v < 128 := ⟨h.1, by have := h.2; simpa using this⟩
theorem encF_len : ∀ (f : Nat) (v : Int), 1 ≤ (encF f v).length ∧ (encF f v).length ≤ f + 1
  | 0, v => by simp [encF]
  | f + 1, v => by
    have ih := encF_len f (v / 128)
    simp only [encF]
    split
    · simp only [List.length_cons]; omega
    · simp
theorem encF_bytes : ∀ (f : Nat) (v : Int), 0 ≤ v → Bytes (encF f v)
  | 0, v, h => by
    intro x hx
    simp only [encF, List.mem_singleton] at hx
    omega
  | f + 1, v, h => by
    have ih := encF_bytes f (v / 128) (by omega)
    simp only [encF]
    split
    · intro x hx
      rcases List.mem_cons.1 hx with rfl | hx
      · omega
      · exact ih x hx
    · intro x hx
      rw [List.mem_singleton] at hx
      omega
theorem or128 (v : Int) (h : 0 ≤ v) : bits .or .u8 (v % 256) 128 = v % 128 + 128 := by
  by_cases h2 : v % 256 < 128
  · obtain ⟨a, ha⟩ := Int.eq_ofNat_of_zero_le (show 0 ≤ v % 256 by omega)
    rw [ha]
    have := Nat.two_pow_add_eq_or_of_lt (show a < 2 ^ 7 by omega) 1
    rw [show (128 : Int) = ((128 : Nat) : Int) by omega, u8_or_nat a 128 (by omega) (by omega), Nat.or_comm]
    rw [show 128 ||| a = 2 ^ 7 * 1 ||| a from rfl, ← this]
    omega
  · obtain ⟨a, ha⟩ := Int.eq_ofNat_of_zero_le (show 0 ≤ v % 256 - 128 by omega)
    have e : v % 256 = ((128 + a : Nat) : Int) := by omega
    rw [e, show (128 : Int) = ((128 : Nat) : Int) by omega, u8_or_nat (128 + a) 128 (by omega) (by omega)]
    have h1 := Nat.two_pow_add_eq_or_of_lt (show a < 2 ^ 7 by omega) 1
    have e2 : 128 + a = 2 ^ 7 * 1 ||| a := by rw [← h1]
    have e3 : (128 + a) ||| 128 = 128 + a := by
      rw [e2, Nat.or_comm, ← Nat.or_assoc, show 128 ||| 2 ^ 7 * 1 = 2 ^ 7 * 1 from rfl]
    rw [e3]; omega
theorem enc_len (v : Int) : 1 ≤ (enc v).length ∧ (enc v).length ≤ 10 := encF_len 9 v
theorem enc_bytes (v : Int) (h : 0 ≤ v) : Bytes (enc v) := encF_bytes 9 v h
theorem grown_eq (l : List Int) (n : Int) (h0 : 0 ≤ n) (h1 : (l.length : Int) + n ≤ 140737488355328) : codec_grown.f l n = some l := by
  unfold codec_grown.f
  rw [if_pos h0, if_pos h1]
/-- n bytes of a number -/
def fixF : Nat → Int → List Int
  | 0, _ => []
  | n + 1, v => v % 256 :: fixF n (v / 256)
theorem fixF_len : ∀ (n : Nat) (v : Int), (fixF n v).length = n
  | 0, _ => rfl
  | n + 1, v => by simp [fixF, fixF_len n]
theorem fixF_bytes : ∀ (n : Nat) (v : Int), Bytes (fixF n v)
  | 0, _ => by intro x hx; simp [fixF] at hx
  | n + 1, v => by
    intro x hx
    simp only [fixF] at hx
    rcases List.mem_cons.1 hx with rfl | hx
    · omega
    · exact fixF_bytes n _ x hx
theorem fixed_put : ∀ (d k : Nat) (x0 : List Int) (v : Int) (n i : Nat), i + d = n → n ≤ 100 → d + 1 ≤ k → x0.length + d < 140737488355328 → codec_fixed.l0 k x0 v n i = some (x0 ++ fixF d v) := by
  intro d
  induction d with
  | zero =>
    intro k x0 v n i hi hn hk hl
    obtain ⟨k, rfl⟩ : ∃ m, k = m + 1 := ⟨k - 1, by omega⟩
    simp only [codec_fixed.l0]
    rw [if_neg (by omega)]
    simp [fixF]
  | succ d ih =>
    intro k x0 v n i hi hn hk hl
    obtain ⟨k, rfl⟩ : ∃ m, k = m + 1 := ⟨k - 1, by omega⟩
    have w : wrap64 ((i : Int) + 1) = ((i + 1 : Nat) : Int) := by unfold wrap64; omega
    simp only [codec_fixed.l0, w]
    rw [if_pos (by omega), if_pos (by omega), ih k _ _ n (i + 1) (by omega) hn (by omega) (by simp; omega)]
    simp [fixF]
theorem fixed_f (k : Nat) (l : List Int) (v : Int) (n : Nat) (hn : n ≤ 100) (hk : n + 1 ≤ k) (hl : l.length ≤ 140737488355200) : codec_fixed.f k l v n = some (l ++ fixF n v) := by
  unfold codec_fixed.f
  rw [grown_eq l _ (by omega) (by omega)]
  simp only [Option.bind_some]
  exact fixed_put n k l v n 0 (by omega) hn hk (by omega)
theorem bytesOf_bytes (s : ByteArray) : Bytes (bytesOf s) := by
  intro x hx
  simp only [bytesOf, List.mem_map] at hx
  obtain ⟨b, _, rfl⟩ := hx
  have := b.toNat_lt
  omega
/-- a text with its length ahead -/
def encText (s : ByteArray) : List Int := enc (s.size : Int) ++ bytesOf s
theorem encText_len (s : ByteArray) : (encText s).length ≤ s.size + 10 ∧ s.size + 1 ≤ (encText s).length := by
  have := enc_len (s.size : Int)
  unfold encText
  rw [List.length_append, bytesOf_length]
  omega
theorem encText_bytes (s : ByteArray) : Bytes (encText s) := (enc_bytes _ (by omega)).append (bytesOf_bytes s)
/-! what is put is read again, and what is read was put so -/
theorem up_up (v c u : Int) (j : Nat) : up (up v c j) u (j + 1) = up v (c + 128 * u) j := by
  unfold up
  have e : (2 : Int) ^ (7 * (j + 1)) = 128 * 2 ^ (7 * j) := by
    rw [show 7 * (j + 1) = 7 + 7 * j by omega, Int.pow_add]
    rfl
  rw [e]
  generalize (2 : Int) ^ (7 * j) = p
  rw [Int.add_mul, Int.mul_assoc 128 u p, Int.mul_left_comm u 128 p]
  omega
theorem up_zero (u : Int) : up 0 u 0 = u := by simp [up]
def Room (f : Nat) (u : Int) : Prop := 0 ≤ u ∧ u < 2 * 128 ^ f
theorem room9 (v : Int) (h0 : 0 ≤ v) (h1 : v < 18446744073709551616) : Room 9 v := by
  refine ⟨h0, ?_⟩
  have : (2 : Int) * 128 ^ 9 = 18446744073709551616 := by decide
  rw [this]; omega
theorem room_div {f : Nat} {v : Int} (h : Room (f + 1) v) : Room f (v / 128) := by
  obtain ⟨h0, h1⟩ := h
  refine ⟨by omega, ?_⟩
  rw [Int.pow_succ, ← Int.mul_assoc] at h1
  generalize (2 : Int) * 128 ^ f = p at *
  omega
theorem room_zero {v : Int} (h : Room 0 v) : 0 ≤ v ∧ v < 2 := ⟨h.1, by have := h.2; simpa using this⟩
theorem le_fixF : ∀ (n : Nat) (v : Int), 0 ≤ v → le (fixF n v) = v % 256 ^ n
  | 0, v, _ => by simp [fixF, le]
  | n + 1, v, h => by
    obtain ⟨m, rfl⟩ := Int.eq_ofNat_of_zero_le h
    simp only [fixF, le]
    rw [le_fixF n _ (by omega)]
    have e := Nat.mod_mul (a := 256) (b := 256 ^ n) (x := m)
    have e1 : ((m : Int) / 256) = ((m / 256 : Nat) : Int) := by omega
    have e2 : ((m / 256 : Nat) : Int) % 256 ^ n = ((m / 256 % 256 ^ n : Nat) : Int) := by
      rw [Int.natCast_emod, Int.natCast_pow]; rfl
    have e3 : (m : Int) % 256 ^ (n + 1) = ((m % (256 * 256 ^ n) : Nat) : Int) := by
      rw [Int.natCast_emod, ← Nat.pow_succ', Int.natCast_pow]; rfl
    rw [e1, e2, e3, e]
    omega
theorem seg_mid (a b c : List Int) : seg (a ++ b ++ c) a.length b.length = b := by
  unfold seg
  rw [List.append_assoc, List.drop_left, List.take_left]
theorem Fixed64_put (k : Nat) (a c : List Int) (v : Int) (h0 : 0 ≤ v) (h1 : v < 18446744073709551616) (hb : Bytes (a ++ fixF 8 v ++ c)) (hl : (a ++ fixF 8 v ++ c).length ≤ 140737488355328) (hk : 10 ≤ k) : codec_Fixed64.f k (a ++ fixF 8 v ++ c) a.length = some (v, (a.length : Int) + 8, 0) := by
  unfold codec_Fixed64.f
  rw [show (8 : Int) = ((8 : Nat) : Int) by omega, fixed_eq _ _ 8 k hb hl (by omega) hk]
  have hlen : (a ++ fixF 8 v ++ c).length = a.length + 8 + c.length := by rw [List.length_append, List.length_append, fixF_len]
  have e : fixv (a ++ fixF 8 v ++ c) a.length 8 = (v, (a.length : Int) + 8, 0) := by
    unfold fixv
    rw [if_neg (by omega), if_neg (by omega), if_neg (by omega), Int.toNat_natCast]
    have hs := seg_mid a (fixF 8 v) c
    rw [fixF_len] at hs
    rw [hs, le_fixF 8 v h0]
    have : (256 : Int) ^ 8 = 18446744073709551616 := by decide
    rw [this, show v % 18446744073709551616 = v by omega]
    rfl
  rw [e]
  rfl
theorem strOfNums_bytesOf (s : ByteArray) : strOfNums (bytesOf s) = s := by
  unfold strOfNums bytesOf
  rw [List.map_map]
  have : (s.data.toList.map ((fun x : Int => UInt8.ofNat x.toNat) ∘ fun b : UInt8 => (b.toNat : Int))) = s.data.toList := by
    conv => rhs; rw [← List.map_id s.data.toList]
    apply List.map_congr_left
    intro b _
    simp
  first
    | (rw [this]; simp)
    | (simp_all)
theorem PutFixed64_eq (k : Nat) (l : List Int) (v : Int) (hk : 10 ≤ k) (hl : l.length ≤ 140737488355200) : codec_PutFixed64.f k l v = some (l ++ fixF 8 v) := by
  unfold codec_PutFixed64.f
  rw [show (8 : Int) = ((8 : Nat) : Int) by omega, fixed_f k l v 8 (by omega) (by omega) hl]
  simp only [Option.bind_some]
theorem reffixed_put : ∀ (d k : Nat) (x0 : List Int) (v : Int) (n i : Nat), i + d = n → n ≤ 100 → d + 1 ≤ k → 0 ≤ v → v < 18446744073709551616 → x0.length + d < 140737488355328 → moraineref01_Fixed.l0 k v n x0 i = some (x0 ++ fixF d v) := by
  intro d
  induction d with
  | zero =>
    intro k x0 v n i hi hn hk h0 h1 hl
    obtain ⟨k, rfl⟩ : ∃ m, k = m + 1 := ⟨k - 1, by omega⟩
    simp only [moraineref01_Fixed.l0]
    rw [if_neg (by omega)]
    simp [fixF]
  | succ d ih =>
    intro k x0 v n i hi hn hk h0 h1 hl
    obtain ⟨k, rfl⟩ : ∃ m, k = m + 1 := ⟨k - 1, by omega⟩
    have w : wrap64 ((i : Int) + 1) = ((i + 1 : Nat) : Int) := by unfold wrap64; omega
    have e1 : IntKind.u64.wrap (Int.tdiv v 256) = v / 256 := by rw [Int.tdiv_eq_ediv_of_nonneg h0, Go.IntKind.wrap_u64]; omega
    simp only [moraineref01_Fixed.l0, w, e1]
    rw [if_pos (by omega), if_pos (by omega), ih k _ _ n (i + 1) (by omega) hn (by omega) (by omega) (by omega) (by simp; omega)]
    simp [fixF]
theorem RefFixed_eq (k : Nat) (v : Int) (n : Nat) (hn : n ≤ 100) (hk : n + 1 ≤ k) (h0 : 0 ≤ v) (h1 : v < 18446744073709551616) : moraineref01_Fixed.f k v n = some (fixF n v) := by
  unfold moraineref01_Fixed.f
  have := reffixed_put n k [] v n 0 (by omega) hn hk h0 h1 (by simp; omega)
  rw [List.nil_append] at this
  exact this
theorem fix4_mod (v : Int) : fixF 4 (v % 4294967296) = fixF 4 v := by
  simp only [fixF]
  congr 1
  · omega
  · congr 1
    · omega
    · congr 1
      · omega
      · congr 1
        omega
theorem strOfNums_append (a b : List Int) : (strOfNums (a ++ b)).toList = (strOfNums a ++ strOfNums b).toList := by
  have h : strOfNums (a ++ b) = strOfNums a ++ strOfNums b := by
    unfold strOfNums
    apply ByteArray.ext
    simp
  rw [h]
theorem R_int_ok {k : IntKind} {e : Nat} {w : World} {base : Nat} {ok : Nat → Prop} {v : Value} {xs : List Int} (h : Kd.R (Kd.int k) e w base ok v xs) : Kd.R (Kd.int k) e w base (fun j => v.ownBlock = some j) v xs := ⟨fun j hj => hj, h.2⟩
theorem R_range {k : IntKind} {e : Nat} {w : World} {base : Nat} {ok : Nat → Prop} {v : Value} {xs : List Int} (h : Kd.R (Kd.int k) e w base ok v xs) (j : Nat) (hj : v.ownBlock = some j) : base ≤ j ∧ j < w.heap.size := by
  obtain ⟨inner, ho⟩ := Kd.R_own h
  exact ⟨own_base ho j hj, own_lt ho j hj⟩

end Go.Proofs.Ytdoolmomkffdaaa.G
