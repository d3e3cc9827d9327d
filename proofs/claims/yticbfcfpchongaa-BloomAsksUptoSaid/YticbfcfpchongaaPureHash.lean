/- Contracts typed by hand: The two Hashes come to one number -/
import Derived.Test.YticbfcfpchongaaProg
import Derived.Below
import Derived.Deep.Draws
import Derived.Deep.AppendLies
import Derived.Maps.AppendAt
import Derived.OwnWalk
import Derived.Laws.BytesArg
import Derived.Laws.MakeOwn
import Derived.Laws.OwnMore
import Derived.Deep.OwnRows
import Derived.Tactics
import Derived.Lib.ConvBytes
import Derived.Laws.Slices
import Derived.WalkKit
import Derived.KernelRfl
import Derived.RowKit3
import Derived.Deep.LoopGhost
import Derived.Deep.QuietTactic
import Derived.BigQuiet
import Derived.WideLaws
import Derived.Deep.DeepCutAuto
import Derived.Deep.CutBlock
import Derived.Deep.RegionHeld3
import Derived.Laws.Rows
import Derived.Lib.AppendStr
import Derived.ArgAppend
import Derived.Laws.IdiomCopy
import Derived.OrdersHeld
import Derived.Laws.BitsLemmas
import Derived.RowKit
import Derived.Test.YticbfcfpchongaaWWords
import Derived.Test.YticbfcfpchongaaWLast
import Derived.Test.YticbfcfpchongaaWTab
import Derived.Test.YticbfcfpchongaaWFour
import Derived.Test.YticbfcfpchongaaWQPut
import Derived.Test.YticbfcfpchongaaWApart
import Derived.Test.YticbfcfpchongaaWArr
import Derived.Test.YticbfcfpchongaaWZeros
import Derived.Test.YticbfcfpchongaaWFoot
import Derived.Test.YticbfcfpchongaaWKept
import Derived.Test.YticbfcfpchongaaWShare
import Derived.Test.YticbfcfpchongaaWN
import Derived.Test.YticbfcfpchongaaWFootNe
import Derived.Test.YticbfcfpchongaaWAt
import Derived.Test.YticbfcfpchongaaWEqStruct
import Derived.Test.YticbfcfpchongaaWRepsOne
import Derived.Test.YticbfcfpchongaaWInv
import Derived.Test.YticbfcfpchongaaWInvWords
import Derived.Test.YticbfcfpchongaaWGuard
import Derived.Test.YticbfcfpchongaaWNEv
import Derived.Test.YticbfcfpchongaaWMore
import Derived.Laws.BitsAllLaws
import Derived.Test.YticbfcfpchongaaGx3
import Derived.Test.YticbfcfpchongaaGx7
import Derived.Test.YticbfcfpchongaaGx6
namespace Go.Proofs.Yticbfcfpchongaa.G
open Go.RowKit Go.Proofs.YticbfcfpchongaaW.PrintWords Go.Proofs.YticbfcfpchongaaW.PrintLast Go.Proofs.YticbfcfpchongaaW.PrintMore
attribute [local go_sem] max2_int min2_int max_two min_two max_three min_three max_four min_four
set_option linter.unusedVariables false
set_option linter.unusedSimpArgs false

/-! The two Hashes come to one number -/
theorem join (i h l : Nat) (hl : l < 2 ^ i) (hs : 2 ^ i * h + l < 4294967296) : bits .or .u32 ((2 ^ i * h : Nat) : Int) (l : Int) = ((2 ^ i * h + l : Nat) : Int) := by
  rw [u32_or_nat (2 ^ i * h) l (by omega) (by omega), ← Nat.two_pow_add_eq_or_of_lt hl h]
theorem or_comm' (a b : Nat) (ha : a < 4294967296) (hb : b < 4294967296) : bits .or .u32 (a : Int) (b : Int) = bits .or .u32 (b : Int) (a : Int) := by
  rw [u32_or_nat a b ha hb, u32_or_nat b a hb ha, Nat.or_comm]
theorem orb (v b : Int) (v0 : 0 ≤ v) (v1 : v < 16777216) (b0 : 0 ≤ b) (b1 : b ≤ 255) : bits .or .u32 ((v * 256) % 4294967296) (b % 4294967296) = v * 256 + b := by
  obtain ⟨x, rfl⟩ := Int.eq_ofNat_of_zero_le v0
  obtain ⟨y, rfl⟩ := Int.eq_ofNat_of_zero_le b0
  have := join 8 x y (by omega) (by omega)
  rw [show ((x : Int) * 256) % 4294967296 = ((2 ^ 8 * x : Nat) : Int) by omega, show (y : Int) % 4294967296 = (y : Int) by omega, this]
  omega
/-- four bytes, the lowest first, or-ed together -/
theorem word (a b c d : Int) (a0 : 0 ≤ a) (a1 : a ≤ 255) (b0 : 0 ≤ b) (b1 : b ≤ 255) (c0 : 0 ≤ c) (c1 : c ≤ 255) (d0 : 0 ≤ d) (d1 : d ≤ 255) :
    bits .or .u32 (bits .or .u32 (bits .or .u32 (a % 4294967296) (((b % 4294967296) * 256) % 4294967296)) (((c % 4294967296) * 65536) % 4294967296)) (((d % 4294967296) * 16777216) % 4294967296) = a + 256 * b + 65536 * c + 16777216 * d := by
  obtain ⟨x, rfl⟩ := Int.eq_ofNat_of_zero_le a0
  obtain ⟨y, rfl⟩ := Int.eq_ofNat_of_zero_le b0
  obtain ⟨z, rfl⟩ := Int.eq_ofNat_of_zero_le c0
  obtain ⟨w, rfl⟩ := Int.eq_ofNat_of_zero_le d0
  have e1 := join 8 y x (by omega) (by omega)
  have e2 := join 16 z (2 ^ 8 * y + x) (by omega) (by omega)
  have e3 := join 24 w (2 ^ 16 * z + (2 ^ 8 * y + x)) (by omega) (by omega)
  rw [show (x : Int) % 4294967296 = (x : Int) by omega, show ((y : Int) % 4294967296 * 256) % 4294967296 = ((2 ^ 8 * y : Nat) : Int) by omega,
    show ((z : Int) % 4294967296 * 65536) % 4294967296 = ((2 ^ 16 * z : Nat) : Int) by omega, show ((w : Int) % 4294967296 * 16777216) % 4294967296 = ((2 ^ 24 * w : Nat) : Int) by omega]
  rw [or_comm' x (2 ^ 8 * y) (by omega) (by omega), e1, or_comm' (2 ^ 8 * y + x) (2 ^ 16 * z) (by omega) (by omega), e2, or_comm' (2 ^ 16 * z + (2 ^ 8 * y + x)) (2 ^ 24 * w) (by omega) (by omega), e3]
  omega
theorem num_step (k : Nat) (s : ByteArray) (at_ v i : Int) (hs : s.size ≤ 140737488351232) (h0 : 0 ≤ at_) (hi : 0 ≤ i) (h : at_ + i < s.size) (v0 : 0 ≤ v) (v1 : v < 16777216) :
    moraineref12_number.l0 (k + 1) s at_ v i = moraineref12_number.l0 k s at_ (v * 256 + bt s (at_ + i)) (i - 1) := by
  have e1 : wrap64 (at_ + i) = at_ + i := by unfold wrap64; omega
  have e2 : wrap64 (i - 1) = i - 1 := by unfold wrap64; omega
  have hb := bt_range s (at_ + i)
  simp only [moraineref12_number.l0]
  rw [if_pos hi, e1, e2, if_pos (by omega), if_pos h, orb v _ v0 v1 hb.1 hb.2]
theorem num_end (k : Nat) (s : ByteArray) (at_ v : Int) : moraineref12_number.l0 (k + 1) s at_ v (-1) = some v := by
  simp only [moraineref12_number.l0]
  rw [if_neg (by omega)]
theorem num1 (k : Nat) (s : ByteArray) (at_ : Int) (hs : s.size ≤ 140737488351232) (h0 : 0 ≤ at_) (h : at_ + 1 ≤ s.size) : moraineref12_number.f (k + 6) s at_ 1 = some (bt s at_) := by
  unfold moraineref12_number.f
  have e : wrap64 (1 - 1) = 0 := by unfold wrap64; omega
  rw [e, num_step _ s at_ 0 0 hs h0 (by omega) (by omega) (by omega) (by omega), show (0 : Int) - 1 = -1 by omega, num_end]
  simp
theorem num2 (k : Nat) (s : ByteArray) (at_ : Int) (hs : s.size ≤ 140737488351232) (h0 : 0 ≤ at_) (h : at_ + 2 ≤ s.size) : moraineref12_number.f (k + 6) s at_ 2 = some (bt s at_ + 256 * bt s (at_ + 1)) := by
  unfold moraineref12_number.f
  have e : wrap64 (2 - 1) = 1 := by unfold wrap64; omega
  have b1 := bt_range s (at_ + 1)
  rw [e, num_step _ s at_ 0 1 hs h0 (by omega) (by omega) (by omega) (by omega), show (1 : Int) - 1 = 0 by omega, num_step _ s at_ _ 0 hs h0 (by omega) (by omega) (by omega) (by omega), show (0 : Int) - 1 = -1 by omega, num_end]
  congr 1; rw [show at_ + 0 = at_ by omega]; omega
theorem num3 (k : Nat) (s : ByteArray) (at_ : Int) (hs : s.size ≤ 140737488351232) (h0 : 0 ≤ at_) (h : at_ + 3 ≤ s.size) : moraineref12_number.f (k + 6) s at_ 3 = some (bt s at_ + 256 * bt s (at_ + 1) + 65536 * bt s (at_ + 2)) := by
  unfold moraineref12_number.f
  have e : wrap64 (3 - 1) = 2 := by unfold wrap64; omega
  have b1 := bt_range s (at_ + 1)
  have b2 := bt_range s (at_ + 2)
  rw [e, num_step _ s at_ 0 2 hs h0 (by omega) (by omega) (by omega) (by omega), show (2 : Int) - 1 = 1 by omega, num_step _ s at_ _ 1 hs h0 (by omega) (by omega) (by omega) (by omega), show (1 : Int) - 1 = 0 by omega,
    num_step _ s at_ _ 0 hs h0 (by omega) (by omega) (by omega) (by omega), show (0 : Int) - 1 = -1 by omega, num_end]
  congr 1; rw [show at_ + 0 = at_ by omega]; omega
theorem num4 (k : Nat) (s : ByteArray) (at_ : Int) (hs : s.size ≤ 140737488351232) (h0 : 0 ≤ at_) (h : at_ + 4 ≤ s.size) : moraineref12_number.f (k + 6) s at_ 4 = some (bt s at_ + 256 * bt s (at_ + 1) + 65536 * bt s (at_ + 2) + 16777216 * bt s (at_ + 3)) := by
  unfold moraineref12_number.f
  have e : wrap64 (4 - 1) = 3 := by unfold wrap64; omega
  have b1 := bt_range s (at_ + 1)
  have b2 := bt_range s (at_ + 2)
  have b3 := bt_range s (at_ + 3)
  rw [e, num_step _ s at_ 0 3 hs h0 (by omega) (by omega) (by omega) (by omega), show (3 : Int) - 1 = 2 by omega, num_step _ s at_ _ 2 hs h0 (by omega) (by omega) (by omega) (by omega), show (2 : Int) - 1 = 1 by omega,
    num_step _ s at_ _ 1 hs h0 (by omega) (by omega) (by omega) (by omega), show (1 : Int) - 1 = 0 by omega,
    num_step _ s at_ _ 0 hs h0 (by omega) (by omega) (by omega) (by omega), show (0 : Int) - 1 = -1 by omega, num_end]
  congr 1; rw [show at_ + 0 = at_ by omega]; omega

theorem xor_rng (a b : Int) : 0 ≤ bits .xor .u32 a b ∧ bits .xor .u32 a b < 4294967296 := by
  unfold bits
  simp only [IntKind.wrap_u32']
  omega
theorem hash_same (s : ByteArray) (hs : s.size ≤ 140737488351232) (d : Nat) : ∀ (k : Nat) (at_ h : Int), 0 ≤ at_ → at_ ≤ s.size → 0 ≤ h → h < 4294967296 → ((s.size : Int) - at_).toNat ≤ d → d + 8 ≤ k →
    ∃ r, 0 ≤ r ∧ r < 4294967296 ∧ bloom_Hash.l0 k s h at_ = some r ∧ moraineref12_Hash.l0 k s 3332679571 h at_ = some r := by
  induction d using Nat.strongRecOn with
  | _ d ih =>
    intro k at_ h h0 h1 g0 g1 hd hk
    obtain ⟨k, rfl⟩ : ∃ m, k = m + 7 := ⟨k - 7, by omega⟩
    have b0 := bt_range s at_
    have b1 := bt_range s (at_ + 1)
    have b2 := bt_range s (at_ + 2)
    have b3 := bt_range s (at_ + 3)
    have w1 : wrap64 (at_ + 1) = at_ + 1 := by unfold wrap64; omega
    have w2 : wrap64 (at_ + 2) = at_ + 2 := by unfold wrap64; omega
    have w3 : wrap64 (at_ + 3) = at_ + 3 := by unfold wrap64; omega
    have w4 : wrap64 (at_ + 4) = at_ + 4 := by unfold wrap64; omega
    have ws : wrap64 ((s.size : Int) - at_) = (s.size : Int) - at_ := by unfold wrap64; omega
    by_cases h4 : at_ + 4 ≤ s.size
    · obtain ⟨r, r0, r1, hr1, hr2⟩ := ih (d - 1) (by omega) (k + 6) (at_ + 4) (Go.bits .xor .u32 ((((h + (bt s at_ + 256 * bt s (at_ + 1) + 65536 * bt s (at_ + 2) + 16777216 * bt s (at_ + 3))) % 4294967296) * 3332679571) % 4294967296) (((((h + (bt s at_ + 256 * bt s (at_ + 1) + 65536 * bt s (at_ + 2) + 16777216 * bt s (at_ + 3))) % 4294967296) * 3332679571) % 4294967296) / 65536)) (by omega) (by omega) (xor_rng _ _).1 (xor_rng _ _).2 (by omega) (by omega)
      refine ⟨r, r0, r1, ?_, ?_⟩
      · simp only [bloom_Hash.l0]
        rw [w1, w2, w3, w4, if_pos h4, if_pos h0, if_pos (by omega), if_pos (by omega), if_pos (by omega), if_pos (by omega), if_pos (by omega), if_pos (by omega), if_pos (by omega),
          word _ _ _ _ b0.1 b0.2 b1.1 b1.2 b2.1 b2.2 b3.1 b3.2]
        exact hr1
      · simp only [moraineref12_Hash.l0]
        rw [ws, w4, if_pos (by omega), num4 k s at_ hs h0 h4]
        simp only [Option.bind_some]
        exact hr2
    · simp only [bloom_Hash.l0, moraineref12_Hash.l0]
      rw [ws, w1, w2, w4, if_neg h4, if_neg (show ¬ (s.size : Int) - at_ ≥ 4 by omega)]
      by_cases e3 : (s.size : Int) - at_ = 3
      · rw [if_pos e3, if_pos (by omega), if_pos (by omega), if_pos (by omega), if_pos (by omega), if_pos (by omega), if_pos (by omega), if_pos (by omega), e3, num3 k s at_ hs h0 (by omega)]
        simp only [Option.bind_some]
        refine ⟨_, ?z0, ?z1, rfl, ?_⟩
        case z0 => exact (xor_rng _ _).1
        case z1 => exact (xor_rng _ _).2
        have e : (h + (bt s at_ + 256 * bt s (at_ + 1) + 65536 * bt s (at_ + 2))) % 4294967296 = (((h + ((bt s (at_ + 2)) % 4294967296 * 65536) % 4294967296) % 4294967296 + ((bt s (at_ + 1)) % 4294967296 * 256) % 4294967296) % 4294967296 + (bt s at_) % 4294967296) % 4294967296 := by omega
        rw [e]
      · rw [if_neg e3]
        by_cases e2 : (s.size : Int) - at_ = 2
        · rw [if_pos e2, if_pos (by omega), if_pos (by omega), if_pos (by omega), if_pos (by omega), if_pos (by omega), e2, num2 k s at_ hs h0 (by omega)]
          simp only [Option.bind_some]
          refine ⟨_, ?z0, ?z1, rfl, ?_⟩
          case z0 => exact (xor_rng _ _).1
          case z1 => exact (xor_rng _ _).2
          have e : (h + (bt s at_ + 256 * bt s (at_ + 1))) % 4294967296 = ((h + ((bt s (at_ + 1)) % 4294967296 * 256) % 4294967296) % 4294967296 + (bt s at_) % 4294967296) % 4294967296 := by omega
          rw [e]
        · rw [if_neg e2]
          by_cases e1 : (s.size : Int) - at_ = 1
          · rw [if_pos e1, if_pos (by omega), if_pos (by omega), if_pos (by omega), e1, num1 k s at_ hs h0 (by omega)]
            simp only [Option.bind_some]
            refine ⟨_, ?z0, ?z1, rfl, ?_⟩
            case z0 => exact (xor_rng _ _).1
            case z1 => exact (xor_rng _ _).2
            have e : (h + bt s at_) % 4294967296 = (h + (bt s at_) % 4294967296) % 4294967296 := by omega
            rw [e]
          · rw [if_neg e1, if_neg (by omega)]
            exact ⟨_, g0, g1, rfl, rfl⟩

theorem hash_all (s : ByteArray) (a : Int) (hs : s.size ≤ 140737488351232) : ∃ r, 0 ≤ r ∧ r < 4294967296 ∧ ∀ k, s.size + 8 ≤ k → bloom_Hash.f k s a = some r ∧ moraineref12_Hash.f k s a = some r := by
  have x := xor_rng a (((((s.size : Int)) % 4294967296) * 3332679571) % 4294967296)
  obtain ⟨r, r0, r1, h1, h2⟩ := hash_same s hs s.size (s.size + 8) 0 (Go.bits .xor .u32 a (((((s.size : Int)) % 4294967296) * 3332679571) % 4294967296)) (by omega) (by omega) x.1 x.2 (by omega) (by omega)
  refine ⟨r, r0, r1, fun k hk => ?_⟩
  obtain ⟨r', _, _, h1', h2'⟩ := hash_same s hs s.size k 0 (Go.bits .xor .u32 a (((((s.size : Int)) % 4294967296) * 3332679571) % 4294967296)) (by omega) (by omega) x.1 x.2 (by omega) hk
  obtain ⟨d, rfl⟩ := Nat.exists_eq_add_of_le hk
  have up : ∀ n, bloom_Hash.f (s.size + 8 + n) s a = some r := by
    intro n
    induction n with
    | zero => exact h1
    | succ n ih => exact bloom_Hash.mono s a _ _ ih
  have e : some r' = some r := (show bloom_Hash.f (s.size + 8 + d) s a = some r' from h1').symm.trans (up d)
  obtain rfl := Option.some.inj e
  exact ⟨h1', h2'⟩

end Go.Proofs.Yticbfcfpchongaa.G
