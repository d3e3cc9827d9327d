/- Contracts typed by hand: plain laws of numbers of so many bytes: codec.read and the reference's ReadFixed -/
import Derived.Test.YtlfikdpcfoflfaaProg
import Derived.Below
import Derived.Deep.Draws
import Derived.Deep.AppendLies
import Derived.Maps.AppendAt
import Derived.OwnWalk
import Derived.Laws.BytesArg
import Derived.Laws.MakeOwn
import Derived.Laws.OwnMore
import Derived.Deep.OwnRows
import Derived.Tactics
import Derived.Lib.ConvBytes
import Derived.Laws.Slices
import Derived.WalkKit
import Derived.KernelRfl
import Derived.RowKit3
import Derived.Deep.LoopGhost
import Derived.Deep.QuietTactic
import Derived.BigQuiet
import Derived.WideLaws
import Derived.Deep.DeepCutAuto
import Derived.Deep.CutBlock
import Derived.Deep.RegionHeld3
import Derived.Laws.Rows
import Derived.Lib.AppendStr
import Derived.ArgAppend
import Derived.Laws.IdiomCopy
import Derived.OrdersHeld
import Derived.Laws.BitsLemmas
import Derived.RowKit
import Derived.Test.YtlfikdpcfoflfaaWWords
import Derived.Test.YtlfikdpcfoflfaaWLast
import Derived.Test.YtlfikdpcfoflfaaWTab
import Derived.Test.YtlfikdpcfoflfaaWFour
import Derived.Test.YtlfikdpcfoflfaaWQPut
import Derived.Test.YtlfikdpcfoflfaaWApart
import Derived.Test.YtlfikdpcfoflfaaWArr
import Derived.Test.YtlfikdpcfoflfaaWZeros
import Derived.Test.YtlfikdpcfoflfaaWFoot
import Derived.Test.YtlfikdpcfoflfaaWKept
import Derived.Test.YtlfikdpcfoflfaaWShare
import Derived.Test.YtlfikdpcfoflfaaWN
import Derived.Test.YtlfikdpcfoflfaaWFootNe
import Derived.Test.YtlfikdpcfoflfaaWAt
import Derived.Test.YtlfikdpcfoflfaaWEqStruct
import Derived.Test.YtlfikdpcfoflfaaWRepsOne
import Derived.Test.YtlfikdpcfoflfaaWInv
import Derived.Test.YtlfikdpcfoflfaaWInvWords
import Derived.Test.YtlfikdpcfoflfaaWGuard
import Derived.Test.YtlfikdpcfoflfaaWNEv
import Derived.Test.YtlfikdpcfoflfaaWMore
import Derived.Test.YtlfikdpcfoflfaaPureVarint
import Derived.Test.YtlfikdpcfoflfaaGx5
import Derived.Test.YtlfikdpcfoflfaaGx7
namespace Go.Proofs.Ytlfikdpcfoflfaa.G
open Go.RowKit Go.Proofs.YtlfikdpcfoflfaaW.PrintWords Go.Proofs.YtlfikdpcfoflfaaW.PrintLast Go.Proofs.YtlfikdpcfoflfaaW.PrintMore
attribute [local go_sem] max2_int min2_int max_two min_two max_three min_three max_four min_four
set_option linter.unusedVariables false
set_option linter.unusedSimpArgs false

/-! plain laws of numbers of so many bytes: codec.read and the reference's ReadFixed -/
/-- the number of bytes, the lowest first -/
def le : List Int → Int
  | [] => 0
  | b :: r => b + 256 * le r
theorem le_range : ∀ (l : List Int), Bytes l → 0 ≤ le l ∧ le l < 2 ^ (8 * l.length)
  | [], _ => ⟨by decide, by decide⟩
  | b :: r, h => by
    have hb := h b List.mem_cons_self
    have ih := le_range r (fun x hx => h x (List.mem_cons_of_mem _ hx))
    have e : (2 : Int) ^ (8 * (b :: r).length) = 256 * 2 ^ (8 * r.length) := by
      rw [show 8 * (b :: r).length = 8 + 8 * r.length by simp; omega, Int.pow_add]
      rfl
    rw [e]
    simp only [le]
    generalize (2 : Int) ^ (8 * r.length) = p at *
    generalize le r = q at *
    omega
theorem le_small (l : List Int) (h : Bytes l) (n : Nat) (hn : l.length ≤ n) (h8 : n ≤ 8) : 0 ≤ le l ∧ le l < 18446744073709551616 := by
  have hr := le_range l h
  have h1 : (2 : Nat) ^ (8 * l.length) ≤ 2 ^ 64 := Nat.pow_le_pow_right (by decide) (by omega)
  have h2 : (2 : Nat) ^ 64 = 18446744073709551616 := by decide
  have h3 : (((2 : Nat) ^ (8 * l.length) : Nat) : Int) = (2 : Int) ^ (8 * l.length) := by rw [Int.natCast_pow]; rfl
  rw [← h3] at hr
  rw [h2] at h1
  generalize (2 : Nat) ^ (8 * l.length) = p at *
  omega
theorem le_snoc : ∀ (l : List Int) (b : Int), le (l ++ [b]) = le l + b * 2 ^ (8 * l.length)
  | [], b => by simp [le]
  | c :: r, b => by
    have ih := le_snoc r b
    have e : (2 : Int) ^ (8 * (c :: r).length) = 256 * 2 ^ (8 * r.length) := by
      rw [show 8 * (c :: r).length = 8 + 8 * r.length by simp; omega, Int.pow_add]
      rfl
    rw [e]
    simp only [le, List.cons_append]
    rw [ih, Int.mul_add]
    have : 256 * (b * 2 ^ (8 * r.length)) = b * (256 * 2 ^ (8 * r.length)) := by
      rw [← Int.mul_assoc, ← Int.mul_assoc, Int.mul_comm 256 b]
    rw [this]; omega
def seg (l : List Int) (p n : Nat) : List Int := (l.drop p).take n
theorem seg_bytes {l : List Int} (h : Bytes l) (p n : Nat) : Bytes (seg l p n) := (h.drop p).take n
theorem seg_len (l : List Int) (p n : Nat) (h : p + n ≤ l.length) : (seg l p n).length = n := by unfold seg; rw [List.length_take, List.length_drop]; omega
theorem rd_get (l : List Int) (n : Nat) (h : n < l.length) : rd l (n : Int) = l[n] := by simp [rd, List.getD_eq_getElem?_getD, List.getElem?_eq_getElem h]
theorem seg_snoc (l : List Int) (p n : Nat) (h : p + n < l.length) : seg l p (n + 1) = seg l p n ++ [rd l ((p + n : Nat) : Int)] := by
  unfold seg
  have hd : n < (l.drop p).length := by rw [List.length_drop]; omega
  rw [List.take_succ_eq_append_getElem hd, rd_get l (p + n) h, List.getElem_drop]
theorem seg_cons (l : List Int) (p n : Nat) (h : p < l.length) : seg l p (n + 1) = rd l ((p : Nat) : Int) :: seg l (p + 1) n := by
  unfold seg
  rw [List.drop_eq_getElem_cons h, rd_get l p h, List.take_succ_cons]
theorem or_byte (v c : Int) (i : Nat) (l : List Int) (hv : v = le l) (hl : l.length = i) (hb : Bytes l) (hi : i ≤ 7) (c0 : 0 ≤ c) (c1 : c ≤ 255) :
    bits .or .u64 v (shl .u64 (IntKind.u64.wrap c) (8 * i : Nat)) = v + c * 2 ^ (8 * i) := by
  have hr := le_range l hb
  rw [← hv, hl] at hr
  obtain ⟨v0, v1⟩ := hr
  clear hv
  obtain ⟨v, rfl⟩ := Int.eq_ofNat_of_zero_le v0
  obtain ⟨c, rfl⟩ := Int.eq_ofNat_of_zero_le c0
  have hv : v < 2 ^ (8 * i) := by exact_mod_cast v1
  have hr := pow_room (8 * i) 8 c v (by omega) hv (by omega)
  have e1 : IntKind.u64.wrap (c : Int) = (c : Int) := by rw [Go.IntKind.wrap_u64]; omega
  have e2 : ((c : Int) * 2 ^ (8 * i)) = ((2 ^ (8 * i) * c : Nat) : Int) := by rw [Int.natCast_mul, Int.natCast_pow, Int.mul_comm]; rfl
  have e3 : IntKind.u64.wrap ((2 ^ (8 * i) * c : Nat) : Int) = ((2 ^ (8 * i) * c : Nat) : Int) := by rw [Go.IntKind.wrap_u64]; omega
  have e4 : shl .u64 (c : Int) ((8 * i : Nat) : Int) = ((2 ^ (8 * i) * c : Nat) : Int) := by
    unfold shl
    rw [Int.toNat_natCast, Nat.min_eq_left (show 8 * i ≤ IntKind.u64.bits by simp [IntKind.bits]; omega), e2, e3]
  rw [e1, e4, or_pow _ _ _ hv hr.2, e2]
  omega
theorem fixed_loop (l : List Int) (p n : Nat) (hb : Bytes l) (hl : l.length ≤ 140737488355328) (hn : n ≤ 8) (hp : p + n ≤ l.length) : ∀ (d k i : Nat), i + d = n → d + 1 ≤ k →
    codec_read.l0 k l p n (le (seg l p i)) n i = some (le (seg l p n), (p : Int) + (n : Int), 0) := by
  intro d
  induction d with
  | zero =>
    intro k i hi hk
    obtain ⟨k, rfl⟩ : ∃ m, k = m + 1 := ⟨k - 1, by omega⟩
    have w : wrap64 ((p : Int) + n) = p + n := by unfold wrap64; omega
    simp only [codec_read.l0, w]
    rw [if_neg (by omega), show i = n by omega]
  | succ d ih =>
    intro k i hi hk
    obtain ⟨k, rfl⟩ : ∃ m, k = m + 1 := ⟨k - 1, by omega⟩
    have w1 : wrap64 ((p : Int) + i) = ((p + i : Nat) : Int) := by unfold wrap64; omega
    have w2 : wrap64 (8 * (i : Int)) = ((8 * i : Nat) : Int) := by unfold wrap64; omega
    have w3 : wrap64 ((i : Int) + 1) = ((i + 1 : Nat) : Int) := by unfold wrap64; omega
    have hc := rd_byte hb ((p + i : Nat) : Int) (by omega) (by omega)
    simp only [codec_read.l0, w1, w2, w3]
    rw [if_pos (by omega), if_pos (by omega), if_pos (by omega), if_pos (by omega)]
    rw [or_byte (le (seg l p i)) (rd l ((p + i : Nat) : Int)) i (seg l p i) rfl (seg_len l p i (by omega)) (seg_bytes hb p i) (by omega) hc.1 hc.2]
    have := ih k (i + 1) (by omega) (by omega)
    rw [seg_snoc l p i (by omega), le_snoc, seg_len l p i (by omega)] at this
    exact this
theorem reffixed_loop (l : List Int) (p n : Nat) (hb : Bytes l) (hl : l.length ≤ 140737488355328) (hn : n ≤ 8) (hp : p + n ≤ l.length) : ∀ (i k : Nat), i ≤ n → i + 1 ≤ k →
    moraineref01_ReadFixed.l0 k l p n (le (seg l (p + i) (n - i))) ((i : Int) - 1) = some (le (seg l p n), (p : Int) + (n : Int), 0) := by
  intro i
  induction i with
  | zero =>
    intro k _ hk
    obtain ⟨k, rfl⟩ : ∃ m, k = m + 1 := ⟨k - 1, by omega⟩
    have w : wrap64 ((p : Int) + n) = p + n := by unfold wrap64; omega
    simp only [moraineref01_ReadFixed.l0, w]
    rw [if_neg (by omega)]
    simp
  | succ i ih =>
    intro k hi hk
    obtain ⟨k, rfl⟩ : ∃ m, k = m + 1 := ⟨k - 1, by omega⟩
    have e0 : ((i + 1 : Nat) : Int) - 1 = (i : Int) := by omega
    have w1 : wrap64 ((p : Int) + i) = ((p + i : Nat) : Int) := by unfold wrap64; omega
    have w2 : wrap64 ((i : Int) - 1) = (i : Int) - 1 := by unfold wrap64; omega
    have hc := rd_byte hb ((p + i : Nat) : Int) (by omega) (by omega)
    have hs := seg_cons l (p + i) (n - (i + 1)) (by omega)
    rw [show n - (i + 1) + 1 = n - i by omega] at hs
    have hv := le_small (seg l (p + i) (n - i)) (seg_bytes hb _ _) 8 (by unfold seg; rw [List.length_take]; omega) (by omega)
    have hv2 := le_small (seg l (p + i + 1) (n - (i + 1))) (seg_bytes hb _ _) 8 (by unfold seg; rw [List.length_take]; omega) (by omega)
    have := ih k (by omega) (by omega)
    rw [hs] at hv this
    simp only [le] at hv this
    rw [e0]
    simp only [moraineref01_ReadFixed.l0, w1, w2]
    rw [if_pos (by omega), if_pos (by omega), if_pos (by omega)]
    rw [show p + (i + 1) = p + i + 1 by omega]
    have e : IntKind.u64.wrap (IntKind.u64.wrap (le (seg l (p + i + 1) (n - (i + 1))) * 256) + IntKind.u64.wrap (rd l ((p + i : Nat) : Int))) = rd l ((p + i : Nat) : Int) + 256 * le (seg l (p + i + 1) (n - (i + 1))) := by
      rw [Go.IntKind.wrap_u64, Go.IntKind.wrap_u64, Go.IntKind.wrap_u64]
      omega
    rw [e]
    exact this
def fixv (l : List Int) (at_ : Int) (n : Nat) : Int × Int × Int := if at_ < 0 then (0, 0, 2) else if at_ > (l.length : Int) then (0, 0, 2) else if (l.length : Int) - at_ < n then (0, 0, 10) else (le (seg l at_.toNat n), at_ + n, 0)
theorem fixed_eq (l : List Int) (at_ : Int) (n k : Nat) (hb : Bytes l) (hl : l.length ≤ 140737488355328) (hn : n ≤ 8) (hk : 10 ≤ k) : codec_read.f k l at_ n = some (fixv l at_ n) := by
  obtain ⟨k, rfl⟩ : ∃ m, k = m + 1 := ⟨k - 1, by omega⟩
  unfold codec_read.f fixv
  by_cases h0 : at_ < 0
  · rw [if_pos h0, if_pos h0]; simp only [codec_read.j0, if_true]
  · rw [if_neg h0, if_neg h0]
    by_cases h1 : at_ > (l.length : Int)
    · rw [if_pos h1, decide_eq_true h1]; simp only [codec_read.j0, if_true]
    · rw [if_neg h1, decide_eq_false h1]
      have w : wrap64 ((l.length : Int) - at_) = (l.length : Int) - at_ := by unfold wrap64; omega
      simp only [codec_read.j0, Bool.false_eq_true, if_false, w]
      by_cases h2 : (l.length : Int) - at_ < n
      · rw [if_pos h2, if_pos h2]
      · rw [if_neg h2, if_neg h2]
        obtain ⟨p, rfl⟩ := Int.eq_ofNat_of_zero_le (show 0 ≤ at_ by omega)
        have := fixed_loop l p n hb hl hn (by omega) n k 0 (by omega) (by omega)
        rw [show seg l p 0 = [] by simp [seg]] at this
        rw [Int.toNat_natCast]
        exact this
theorem reffixed_eq (l : List Int) (at_ : Int) (n k : Nat) (hb : Bytes l) (hl : l.length ≤ 140737488355328) (hn : n ≤ 8) (hk : 10 ≤ k) : moraineref01_ReadFixed.f k l at_ n = some (fixv l at_ n) := by
  obtain ⟨k, rfl⟩ : ∃ m, k = m + 1 := ⟨k - 1, by omega⟩
  unfold moraineref01_ReadFixed.f fixv
  by_cases h0 : at_ < 0
  · rw [if_pos h0, if_pos h0]; simp only [moraineref01_ReadFixed.j0, if_true]
  · rw [if_neg h0, if_neg h0]
    by_cases h1 : at_ > (l.length : Int)
    · rw [if_pos h1, decide_eq_true h1]; simp only [moraineref01_ReadFixed.j0, if_true]
    · rw [if_neg h1, decide_eq_false h1]
      have w : wrap64 ((l.length : Int) - at_) = (l.length : Int) - at_ := by unfold wrap64; omega
      have w2 : wrap64 ((n : Int) - 1) = (n : Int) - 1 := by unfold wrap64; omega
      simp only [moraineref01_ReadFixed.j0, Bool.false_eq_true, if_false, w, w2]
      by_cases h2 : (l.length : Int) - at_ < n
      · rw [if_pos h2, if_pos h2]
      · rw [if_neg h2, if_neg h2]
        obtain ⟨p, rfl⟩ := Int.eq_ofNat_of_zero_le (show 0 ≤ at_ by omega)
        have := reffixed_loop l p n hb hl hn (by omega) n k (by omega) (by omega)
        rw [show n - n = 0 by omega, show seg l (p + n) 0 = [] by simp [seg]] at this
        rw [Int.toNat_natCast]
        exact this
theorem fixv_small (l : List Int) (at_ : Int) (n : Nat) (hb : Bytes l) (hn : n ≤ 8) : 0 ≤ (fixv l at_ n).1 ∧ (fixv l at_ n).1 < 18446744073709551616 := by
  unfold fixv
  split
  · simp
  · split
    · simp
    · split
      · simp
      · exact le_small _ (seg_bytes hb _ _) 8 (by unfold seg; rw [List.length_take]; omega) (by omega)
theorem fixv_small4 (l : List Int) (at_ : Int) (hb : Bytes l) : 0 ≤ (fixv l at_ 4).1 ∧ (fixv l at_ 4).1 < 4294967296 := by
  unfold fixv
  split
  · simp
  · split
    · simp
    · split
      · simp
      · have hr := le_range (seg l at_.toNat 4) (seg_bytes hb _ _)
        rw [seg_len l _ _ (by omega)] at hr
        exact hr

end Go.Proofs.Ytlfikdpcfoflfaa.G
