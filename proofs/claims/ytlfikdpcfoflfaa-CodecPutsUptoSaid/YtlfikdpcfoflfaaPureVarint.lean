/- Contracts typed by hand: plain laws of numbers as varints: what codec.Varint answers, and that the reference answers so -/
import Derived.Test.YtlfikdpcfoflfaaProg
import Derived.Below
import Derived.Deep.Draws
import Derived.Deep.AppendLies
import Derived.Maps.AppendAt
import Derived.OwnWalk
import Derived.Laws.BytesArg
import Derived.Laws.MakeOwn
import Derived.Laws.OwnMore
import Derived.Deep.OwnRows
import Derived.Tactics
import Derived.Lib.ConvBytes
import Derived.Laws.Slices
import Derived.WalkKit
import Derived.KernelRfl
import Derived.RowKit3
import Derived.Deep.LoopGhost
import Derived.Deep.QuietTactic
import Derived.BigQuiet
import Derived.WideLaws
import Derived.Deep.DeepCutAuto
import Derived.Deep.CutBlock
import Derived.Deep.RegionHeld3
import Derived.Laws.Rows
import Derived.Lib.AppendStr
import Derived.ArgAppend
import Derived.Laws.IdiomCopy
import Derived.OrdersHeld
import Derived.Laws.BitsLemmas
import Derived.RowKit
import Derived.Test.YtlfikdpcfoflfaaWWords
import Derived.Test.YtlfikdpcfoflfaaWLast
import Derived.Test.YtlfikdpcfoflfaaWTab
import Derived.Test.YtlfikdpcfoflfaaWFour
import Derived.Test.YtlfikdpcfoflfaaWQPut
import Derived.Test.YtlfikdpcfoflfaaWApart
import Derived.Test.YtlfikdpcfoflfaaWArr
import Derived.Test.YtlfikdpcfoflfaaWZeros
import Derived.Test.YtlfikdpcfoflfaaWFoot
import Derived.Test.YtlfikdpcfoflfaaWKept
import Derived.Test.YtlfikdpcfoflfaaWShare
import Derived.Test.YtlfikdpcfoflfaaWN
import Derived.Test.YtlfikdpcfoflfaaWFootNe
import Derived.Test.YtlfikdpcfoflfaaWAt
import Derived.Test.YtlfikdpcfoflfaaWEqStruct
import Derived.Test.YtlfikdpcfoflfaaWRepsOne
import Derived.Test.YtlfikdpcfoflfaaWInv
import Derived.Test.YtlfikdpcfoflfaaWInvWords
import Derived.Test.YtlfikdpcfoflfaaWGuard
import Derived.Test.YtlfikdpcfoflfaaWNEv
import Derived.Test.YtlfikdpcfoflfaaWMore
import Derived.Test.YtlfikdpcfoflfaaManVarint
import Derived.Laws.BitsAllLaws
import Derived.Test.YtlfikdpcfoflfaaGx4
namespace Go.Proofs.Ytlfikdpcfoflfaa.G
open Go.RowKit Go.Proofs.YtlfikdpcfoflfaaW.PrintWords Go.Proofs.YtlfikdpcfoflfaaW.PrintLast Go.Proofs.YtlfikdpcfoflfaaW.PrintMore
attribute [local go_sem] max2_int min2_int max_two min_two max_three min_three max_four min_four
set_option linter.unusedVariables false
set_option linter.unusedSimpArgs false

/-! plain laws of numbers as varints: what codec.Varint answers, and that the reference answers so -/
def Bytes (l : List Int) : Prop := ∀ x ∈ l, 0 ≤ x ∧ x ≤ 255
theorem bytes_of_wf {l : List Int} (h : ∀ x ∈ l, (Lit.int .u8 x).wf = true) : Bytes l := by
  intro x hx
  simpa [Lit.wf, IntKind.min, IntKind.max, IntKind.signed, IntKind.bits] using h x hx
theorem Bytes.drop {l : List Int} (h : Bytes l) (n : Nat) : Bytes (l.drop n) := fun x hx => h x (List.mem_of_mem_drop hx)
theorem Bytes.take {l : List Int} (h : Bytes l) (n : Nat) : Bytes (l.take n) := fun x hx => h x (List.mem_of_mem_take hx)
theorem Bytes.append {l r : List Int} (h : Bytes l) (k : Bytes r) : Bytes (l ++ r) := fun x hx => (List.mem_append.1 hx).elim (h x) (k x)
/-- bits above m and bits below: or is the sum -/
theorem or_pow (m : Nat) (c v : Nat) (hv : v < 2 ^ m) (hc : 2 ^ m * c + v < 18446744073709551616) : bits .or .u64 (v : Int) ((2 ^ m * c : Nat) : Int) = ((2 ^ m * c + v : Nat) : Int) := by
  rw [u64_or_nat v (2 ^ m * c) (by omega) (by omega), Nat.or_comm, ← Nat.two_pow_add_eq_or_of_lt hv c]
theorem pow_room (m p c v : Nat) (hc : c < 2 ^ p) (hv : v < 2 ^ m) (hp : m + p ≤ 64) : 2 ^ m * c + v < 2 ^ (m + p) ∧ 2 ^ m * c + v < 18446744073709551616 := by
  have h1 : 2 ^ m * (c + 1) ≤ 2 ^ m * 2 ^ p := Nat.mul_le_mul_left _ hc
  rw [← Nat.pow_add, Nat.mul_add, Nat.mul_one] at h1
  have h2 : 2 ^ (m + p) ≤ 2 ^ 64 := Nat.pow_le_pow_right (by decide) hp
  have h3 : (2 : Nat) ^ 64 = 18446744073709551616 := by decide
  omega
theorem and127 (c : Int) (h0 : 0 ≤ c) (h1 : c ≤ 255) : bits .and .u8 c 127 = c % 128 := by
  rw [u8_and c 127 h0 (by omega) (by omega) (by omega)]
  have : c.toNat &&& (127 : Int).toNat = c.toNat % 2 ^ 7 := Nat.and_two_pow_sub_one_eq_mod c.toNat 7
  rw [this]; omega
/-- a group of seven bits, put above those that are there -/
theorem group (v c : Int) (j p : Nat) (v0 : 0 ≤ v) (v1 : v < 2 ^ (7 * j)) (c0 : 0 ≤ c) (c1 : c < 2 ^ p) (hp : 7 * j + p ≤ 64) :
    bits .or .u64 v (IntKind.u64.wrap (IntKind.u64.wrap c * 2 ^ (7 * j))) = v + c * 2 ^ (7 * j) ∧ IntKind.u64.wrap (v + shl .u64 (IntKind.u64.wrap c) (7 * j : Nat)) = v + c * 2 ^ (7 * j) ∧ 0 ≤ v + c * 2 ^ (7 * j) ∧ v + c * 2 ^ (7 * j) < 2 ^ (7 * j + p) ∧ v + c * 2 ^ (7 * j) < 18446744073709551616 := by
  obtain ⟨v, rfl⟩ := Int.eq_ofNat_of_zero_le v0
  obtain ⟨c, rfl⟩ := Int.eq_ofNat_of_zero_le c0
  have hv : v < 2 ^ (7 * j) := by exact_mod_cast v1
  have hc : c < 2 ^ p := by exact_mod_cast c1
  have hr := pow_room (7 * j) p c v hc hv hp
  have hc2 : c < 18446744073709551616 := by
    have h2 : 2 ^ p ≤ 2 ^ 64 := Nat.pow_le_pow_right (by decide) (by omega)
    have h3 : (2 : Nat) ^ 64 = 18446744073709551616 := by decide
    omega
  have e1 : IntKind.u64.wrap (c : Int) = (c : Int) := by rw [Go.IntKind.wrap_u64]; omega
  have e2 : ((c : Int) * 2 ^ (7 * j)) = ((2 ^ (7 * j) * c : Nat) : Int) := by rw [Int.natCast_mul, Int.natCast_pow, Int.mul_comm]; rfl
  have e3 : IntKind.u64.wrap ((2 ^ (7 * j) * c : Nat) : Int) = ((2 ^ (7 * j) * c : Nat) : Int) := by rw [Go.IntKind.wrap_u64]; omega
  have e4 : shl .u64 (c : Int) ((7 * j : Nat) : Int) = ((2 ^ (7 * j) * c : Nat) : Int) := by
    unfold shl
    rw [Int.toNat_natCast, Nat.min_eq_left (show 7 * j ≤ IntKind.u64.bits by simp [IntKind.bits]; omega), e2, e3]
  rw [e1, e2, e3, e4, or_pow _ _ _ hv hr.2]
  refine ⟨by omega, ?_, by omega, ?_, ?_⟩
  · rw [Go.IntKind.wrap_u64]; omega
  · have : ((2 ^ (7 * j) * c + v : Nat) : Int) < ((2 ^ (7 * j + p) : Nat) : Int) := by exact_mod_cast hr.1
    rw [Int.natCast_add, Int.natCast_pow] at this
    have e5 : ((2 : Nat) : Int) = 2 := rfl
    rw [e5] at this
    omega
  · omega
def Fits (v : Int) (j : Nat) : Prop := 0 ≤ v ∧ v < 2 ^ (7 * j)
def up (v c : Int) (j : Nat) : Int := v + c * 2 ^ (7 * j)
theorem fits0 : Fits 0 0 := ⟨by decide, by decide⟩
theorem group7 {v c : Int} {j : Nat} (h : Fits v j) (hj : j ≤ 8) (c0 : 0 ≤ c) (c1 : c < 128) :
    bits .or .u64 v (IntKind.u64.wrap (IntKind.u64.wrap c * 2 ^ (7 * j))) = up v c j ∧ IntKind.u64.wrap (v + shl .u64 (IntKind.u64.wrap c) (7 * j : Nat)) = up v c j ∧ Fits (up v c j) (j + 1) ∧ 0 ≤ up v c j ∧ up v c j < 18446744073709551616 := by
  have hg := group v c j 7 h.1 h.2 c0 c1 (by omega)
  exact ⟨hg.1, hg.2.1, ⟨hg.2.2.1, hg.2.2.2.1⟩, hg.2.2.1, hg.2.2.2.2⟩
theorem group1 {v c : Int} {j : Nat} (h : Fits v j) (hj : j = 9) (c0 : 0 ≤ c) (c1 : c < 2) :
    bits .or .u64 v (IntKind.u64.wrap (IntKind.u64.wrap c * 2 ^ (7 * j))) = up v c j ∧ IntKind.u64.wrap (v + shl .u64 (IntKind.u64.wrap c) (7 * j : Nat)) = up v c j ∧ 0 ≤ up v c j ∧ up v c j < 18446744073709551616 := by
  have hg := group v c j 1 h.1 h.2 c0 c1 (by omega)
  exact ⟨hg.1, hg.2.1, hg.2.2.1, hg.2.2.2.2⟩
def Told (at_ : Int) (j n : Nat) (r : Int × Int × Int) : Prop :=
  (r.2.2 = 0 ∧ 0 ≤ r.1 ∧ r.1 < 18446744073709551616 ∧ at_ + j + 1 ≤ r.2.1 ∧ r.2.1 ≤ at_ + j + n) ∨ (r.2.2 = 10 ∧ r.1 = 0 ∧ r.2.1 = 0) ∨ (r.2.2 = 11 ∧ r.1 = 0 ∧ r.2.1 = 0)
theorem go_spec (at_ : Int) : ∀ (cs : List Int) (j : Nat) (v : Int), Bytes cs → j ≤ 9 → Fits v j → Told at_ j cs.length (codec_Varint.go at_ cs j v)
  | [], j, v, _, _, _ => .inr (.inl ⟨rfl, rfl, rfl⟩)
  | c :: cs, j, v, hb, hj, hv => by
    have hc := hb c List.mem_cons_self
    have hl : (c :: cs).length = cs.length + 1 := rfl
    simp only [codec_Varint.go]
    by_cases h1 : j = 9 ∧ 1 < c
    · rw [if_pos h1]; exact .inr (.inr ⟨rfl, rfl, rfl⟩)
    · rw [if_neg h1]
      by_cases h2 : c = 0 ∧ 0 < j
      · rw [if_pos h2]; exact .inr (.inr ⟨rfl, rfl, rfl⟩)
      · rw [if_neg h2]
        by_cases h3 : c < 128
        · rw [if_pos h3]
          left
          by_cases h9 : j = 9
          · have hg := group1 hv h9 hc.1 (by omega)
            rw [hg.1]
            exact ⟨rfl, hg.2.2.1, hg.2.2.2, by simp only []; omega, by simp only []; omega⟩
          · have hg := group7 hv (by omega) hc.1 h3
            rw [hg.1]
            exact ⟨rfl, hg.2.2.2.1, hg.2.2.2.2, by simp only []; omega, by simp only []; omega⟩
        · rw [if_neg h3]
          have hg := group7 (c := c % 128) hv (by omega) (by omega) (by omega)
          rw [and127 c hc.1 hc.2, hg.1]
          have ih := go_spec at_ cs (j + 1) (up v (c % 128) j) (fun x hx => hb x (List.mem_cons_of_mem _ hx)) (by omega) hg.2.2.1
          rcases ih with ⟨a, b, d, e, f⟩ | ih | ih
          · exact .inl ⟨a, b, d, by omega, by omega⟩
          · exact .inr (.inl ih)
          · exact .inr (.inr ih)
theorem rd_byte {l : List Int} (hb : Bytes l) (i : Int) (h0 : 0 ≤ i) (h1 : i < l.length) : 0 ≤ rd l i ∧ rd l i ≤ 255 := by
  obtain ⟨n, rfl⟩ := Int.eq_ofNat_of_zero_le h0
  have hx : n < l.length := by omega
  have e : rd l (n : Int) = l[n] := by simp [rd, List.getD_eq_getElem?_getD, List.getElem?_eq_getElem hx]
  rw [e]
  exact hb _ (List.getElem_mem hx)
theorem drop_at (l : List Int) (at_ : Int) (j : Nat) (h0 : 0 ≤ at_) (h : at_ + j < l.length) : l.drop (at_.toNat + j) = rd l (at_ + j) :: l.drop (at_.toNat + (j + 1)) := by
  have := codec_Varint.drop_rd l (at_.toNat + j) (by omega)
  rw [show ((at_.toNat + j : Nat) : Int) = at_ + j by omega] at this
  exact this
theorem read_step (l : List Int) (at_ : Int) (h0 : 0 ≤ at_) (hl : l.length ≤ 140737488355328) (k j : Nat) (v : Int) (hj : j ≤ 9) (hlt : at_ + j < l.length) :
    moraineref01_Read.l0 (k + 2) l at_ v j = if (j : Int) = 9 ∧ rd l (at_ + j) > 1 then some (0, 0, 11) else if rd l (at_ + j) < 128 then (if rd l (at_ + j) = 0 then (if (j : Int) > 0 then some (0, 0, 11) else some (IntKind.u64.wrap (v + shl .u64 (IntKind.u64.wrap (Int.tmod (rd l (at_ + j)) 128)) (7 * j : Nat)), at_ + j + 1, 0)) else some (IntKind.u64.wrap (v + shl .u64 (IntKind.u64.wrap (Int.tmod (rd l (at_ + j)) 128)) (7 * j : Nat)), at_ + j + 1, 0))
      else moraineref01_Read.l0 k l at_ (IntKind.u64.wrap (v + shl .u64 (IntKind.u64.wrap (Int.tmod (rd l (at_ + j)) 128)) (7 * j : Nat))) ((j + 1 : Nat) : Int) := by
  have w1 : wrap64 (at_ + j) = at_ + j := by unfold wrap64; omega
  have w2 : wrap64 (7 * (j : Int)) = ((7 * j : Nat) : Int) := by unfold wrap64; omega
  have w3 : IntKind.u64.wrap ((7 * j : Nat) : Int) = ((7 * j : Nat) : Int) := by rw [Go.IntKind.wrap_u64]; omega
  have w4 : wrap64 (at_ + j + 1) = at_ + j + 1 := by unfold wrap64; omega
  have w5 : wrap64 ((j : Int) + 1) = ((j + 1 : Nat) : Int) := by unfold wrap64; omega
  have g0 : ¬ at_ + (j : Int) = (l.length : Int) := by omega
  have g1 : 0 ≤ at_ + (j : Int) := by omega
  have g2 : 0 ≤ ((7 * j : Nat) : Int) := by omega
  simp only [moraineref01_Read.l0, moraineref01_Read.j2, w1, w2, w3, w4, w5]
  rw [if_neg g0, if_pos g1, if_pos hlt]
  clear w1 w2 w3 w4 w5 g0 g1 hl
  by_cases h9 : (j : Int) = 9
  · rw [if_pos h9]
    by_cases hc : rd l (at_ + j) > 1
    · rw [if_pos (decide_eq_true hc), if_pos ⟨h9, hc⟩]
    · rw [if_neg (by rw [decide_eq_false hc]; exact Bool.false_ne_true), if_pos g2, if_neg (show ¬ ((j : Int) = 9 ∧ rd l (at_ + j) > 1) from fun q => hc q.2)]
  · rw [if_neg h9, if_neg Bool.false_ne_true, if_pos g2, if_neg (show ¬ ((j : Int) = 9 ∧ rd l (at_ + j) > 1) from fun q => h9 q.1)]
theorem read_stop (l : List Int) (at_ : Int) (hl : l.length ≤ 140737488355328) (k j : Nat) (v : Int) (he : at_ + j = (l.length : Int)) : moraineref01_Read.l0 (k + 1) l at_ v j = some (0, 0, 10) := by
  have w1 : wrap64 (at_ + j) = at_ + j := by unfold wrap64; omega
  simp only [moraineref01_Read.l0, w1]
  rw [if_pos he]
theorem read_go (l : List Int) (at_ : Int) (h0 : 0 ≤ at_) (hb : Bytes l) (hl : l.length ≤ 140737488355328) : ∀ (d k j : Nat) (v : Int), j ≤ 9 → at_ + j ≤ l.length → Fits v j → 10 - j = d → 2 * d + 2 ≤ k →
    moraineref01_Read.l0 k l at_ v j = some (codec_Varint.go at_ (l.drop (at_.toNat + j)) j v) := by
  intro d
  induction d with
  | zero => intro k j v hj _ _ hd; omega
  | succ d ih =>
    intro k j v hj hlt hv hd hk
    obtain ⟨k, rfl⟩ : ∃ m, k = m + 2 := ⟨k - 2, by omega⟩
    by_cases he : at_ + j = (l.length : Int)
    · have hn : l.drop (at_.toNat + j) = [] := List.drop_eq_nil_of_le (by omega)
      rw [read_stop l at_ hl _ j v he, hn]
      simp only [codec_Varint.go]
    · have hlt' : at_ + (j : Int) < l.length := by omega
      have hc := rd_byte hb (at_ + j) (by omega) hlt'
      have hm : Int.tmod (rd l (at_ + j)) 128 = rd l (at_ + j) % 128 := Int.tmod_eq_emod_of_nonneg hc.1
      rw [read_step l at_ h0 hl k j v hj hlt', drop_at l at_ j h0 hlt', hm]
      generalize rd l (at_ + j) = c at *
      simp only [codec_Varint.go]
      have L9 : ∀ q : Prop, j ≠ 9 → ¬ ((j : Int) = 9 ∧ q) := fun q h e => h (by omega)
      have R9 : ∀ q : Prop, j ≠ 9 → ¬ (j = 9 ∧ q) := fun q h e => h e.1
      by_cases h9 : j = 9
      · by_cases hc1 : 1 < c
        · rw [if_pos (show (j : Int) = 9 ∧ c > 1 from ⟨by omega, hc1⟩), if_pos (show j = 9 ∧ 1 < c from ⟨h9, hc1⟩)]
        · rw [if_neg (show ¬ ((j : Int) = 9 ∧ c > 1) from fun q => hc1 q.2), if_neg (show ¬ (j = 9 ∧ 1 < c) from fun q => hc1 q.2), if_pos (show c < 128 by omega)]
          by_cases hz : c = 0
          · rw [if_pos hz, if_pos (show (j : Int) > 0 by omega), if_pos (show c = 0 ∧ 0 < j from ⟨hz, by omega⟩)]
          · have hg := group1 hv h9 hc.1 (by omega)
            rw [if_neg hz, if_neg (show ¬ (c = 0 ∧ 0 < j) from fun q => hz q.1), if_pos (show c < 128 by omega), show c % 128 = c by omega, hg.1, hg.2.1]
      · rw [if_neg (L9 _ h9), if_neg (R9 _ h9)]
        by_cases h128 : c < 128
        · have hg := group7 hv (by omega) hc.1 h128
          rw [if_pos h128, show c % 128 = c by omega, hg.2.1]
          by_cases hz : c = 0
          · rw [if_pos hz]
            by_cases hj0 : (j : Int) > 0
            · rw [if_pos hj0, if_pos (show c = 0 ∧ 0 < j from ⟨hz, by omega⟩)]
            · rw [if_neg hj0, if_neg (show ¬ (c = 0 ∧ 0 < j) from fun q => hj0 (by omega)), if_pos h128, hg.1]
          · rw [if_neg hz, if_neg (show ¬ (c = 0 ∧ 0 < j) from fun q => hz q.1), if_pos h128, hg.1]
        · have hg := group7 (c := c % 128) hv (by omega) (by omega) (by omega)
          rw [if_neg h128, if_neg (show ¬ (c = 0 ∧ 0 < j) from fun q => h128 (by omega)), if_neg h128, and127 c hc.1 hc.2, hg.1, hg.2.1]
          exact ih k (j + 1) (up v (c % 128) j) (by omega) (by omega) hg.2.2.1 (by omega) (by omega)
/-- what is read at a place: the program and the reference -/
theorem read_same (l : List Int) (at_ : Int) (hb : Bytes l) (hl : l.length ≤ 140737488355328) (k : Nat) (hk : 24 ≤ k) : moraineref01_Read.f k l at_ = codec_Varint.f l at_ := by
  obtain ⟨k, rfl⟩ : ∃ m, k = m + 1 := ⟨k - 1, by omega⟩
  unfold moraineref01_Read.f codec_Varint.f
  by_cases h0 : at_ < 0
  · rw [if_pos h0, if_pos h0]; simp only [moraineref01_Read.j0, if_true]
  · rw [if_neg h0, if_neg h0]
    by_cases h1 : at_ > (l.length : Int)
    · rw [if_pos h1, decide_eq_true h1]; simp only [moraineref01_Read.j0, if_true]
    · rw [if_neg h1, decide_eq_false h1, if_pos (by omega)]
      simp only [moraineref01_Read.j0, Bool.false_eq_true, if_false]
      exact read_go l at_ (by omega) hb hl 10 k 0 0 (by omega) (by omega) fits0 (by omega) (by omega)
/-- what codec.Varint answers: a number with the place behind it, or an error with two noughts -/
theorem varint_some (l : List Int) (at_ : Int) (hb : Bytes l) (hl : l.length ≤ 140737488355328) : ∃ v n e, codec_Varint.f l at_ = some (v, n, e) ∧
    ((e = 0 ∧ 0 ≤ v ∧ v < 18446744073709551616 ∧ 0 ≤ at_ ∧ at_ + 1 ≤ n ∧ n ≤ l.length) ∨ (e ≠ 0 ∧ 0 ≤ e ∧ e ≤ 11 ∧ v = 0 ∧ n = 0)) := by
  unfold codec_Varint.f
  by_cases h0 : at_ < 0
  · rw [if_pos h0]; exact ⟨0, 0, 2, rfl, .inr ⟨by omega, by omega, by omega, rfl, rfl⟩⟩
  · rw [if_neg h0]
    by_cases h1 : at_ > (l.length : Int)
    · rw [if_pos h1]; exact ⟨0, 0, 2, rfl, .inr ⟨by omega, by omega, by omega, rfl, rfl⟩⟩
    · rw [if_neg h1, if_pos (by omega)]
      have hs := go_spec at_ (l.drop at_.toNat) 0 0 (hb.drop _) (by omega) fits0
      have hd : (l.drop at_.toNat).length = l.length - at_.toNat := List.length_drop
      generalize codec_Varint.go at_ (l.drop at_.toNat) 0 0 = r at hs
      obtain ⟨v, n, e⟩ := r
      simp only [Told] at hs
      rcases hs with ⟨a, b, c, d, e⟩ | ⟨a, b, c⟩ | ⟨a, b, c⟩
      · exact ⟨_, _, _, rfl, .inl ⟨a, b, c, by omega, by omega, by omega⟩⟩
      · exact ⟨_, _, _, rfl, .inr ⟨by omega, by omega, by omega, b, c⟩⟩
      · exact ⟨_, _, _, rfl, .inr ⟨by omega, by omega, by omega, b, c⟩⟩

end Go.Proofs.Ytlfikdpcfoflfaa.G
