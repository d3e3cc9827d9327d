/- Contracts typed by hand: plain laws of an internal key's bytes: Pack, Unpack, Encode, Decode -/
import Derived.Test.YtdoolmomkffdaaaProg
import Derived.Below
import Derived.Deep.Draws
import Derived.Deep.AppendLies
import Derived.Maps.AppendAt
import Derived.OwnWalk
import Derived.Laws.BytesArg
import Derived.Laws.MakeOwn
import Derived.Laws.OwnMore
import Derived.Deep.OwnRows
import Derived.Tactics
import Derived.Lib.ConvBytes
import Derived.Laws.Slices
import Derived.WalkKit
import Derived.KernelRfl
import Derived.RowKit3
import Derived.Deep.LoopGhost
import Derived.Deep.QuietTactic
import Derived.BigQuiet
import Derived.WideLaws
import Derived.Deep.DeepCutAuto
import Derived.Deep.CutBlock
import Derived.Deep.RegionHeld3
import Derived.Laws.Rows
import Derived.Lib.AppendStr
import Derived.ArgAppend
import Derived.Laws.IdiomCopy
import Derived.OrdersHeld
import Derived.Laws.BitsLemmas
import Derived.RowKit
import Derived.Test.YtdoolmomkffdaaaWWords
import Derived.Test.YtdoolmomkffdaaaWLast
import Derived.Test.YtdoolmomkffdaaaWTab
import Derived.Test.YtdoolmomkffdaaaWFour
import Derived.Test.YtdoolmomkffdaaaWQPut
import Derived.Test.YtdoolmomkffdaaaWApart
import Derived.Test.YtdoolmomkffdaaaWArr
import Derived.Test.YtdoolmomkffdaaaWZeros
import Derived.Test.YtdoolmomkffdaaaWFoot
import Derived.Test.YtdoolmomkffdaaaWKept
import Derived.Test.YtdoolmomkffdaaaWShare
import Derived.Test.YtdoolmomkffdaaaWN
import Derived.Test.YtdoolmomkffdaaaWFootNe
import Derived.Test.YtdoolmomkffdaaaWAt
import Derived.Test.YtdoolmomkffdaaaWEqStruct
import Derived.Test.YtdoolmomkffdaaaWRepsOne
import Derived.Test.YtdoolmomkffdaaaWInv
import Derived.Test.YtdoolmomkffdaaaWInvWords
import Derived.Test.YtdoolmomkffdaaaWGuard
import Derived.Test.YtdoolmomkffdaaaWNEv
import Derived.Test.YtdoolmomkffdaaaWMore
import Derived.Test.YtdoolmomkffdaaaPureCodec03
import Derived.Test.YtdoolmomkffdaaaPureIkey
import Derived.Test.YtdoolmomkffdaaaManEncode03
import Derived.Test.YtdoolmomkffdaaaManDecode03
import Derived.Test.YtdoolmomkffdaaaGx23
import Derived.Test.YtdoolmomkffdaaaGx28
import Derived.Test.YtdoolmomkffdaaaGx14
namespace Go.Proofs.Ytdoolmomkffdaaa.G
open Go.RowKit Go.Proofs.YtdoolmomkffdaaaW.PrintWords Go.Proofs.YtdoolmomkffdaaaW.PrintLast Go.Proofs.YtdoolmomkffdaaaW.PrintMore
attribute [local go_sem] max2_int min2_int max_two min_two max_three min_three max_four min_four
set_option linter.unusedVariables false
set_option linter.unusedSimpArgs false

/-! plain laws of an internal key's bytes: Pack, Unpack, Encode, Decode -/
def kindB (t : Int) : Bool := decide (t = 0 ∨ t = 1 ∨ t = 2 ∨ t = 255)
theorem pack_bits (s t : Int) (s0 : 0 ≤ s) (s1 : s ≤ 72057594037927935) (t0 : 0 ≤ t) (t1 : t ≤ 255) : Go.bits .or .u64 (IntKind.u64.wrap (s * 256)) (IntKind.u64.wrap t) = s * 256 + t := by
  obtain ⟨s, rfl⟩ := Int.eq_ofNat_of_zero_le s0
  obtain ⟨t, rfl⟩ := Int.eq_ofNat_of_zero_le t0
  have e1 : IntKind.u64.wrap ((s : Int) * 256) = ((2 ^ 8 * s : Nat) : Int) := by rw [Go.IntKind.wrap_u64]; omega
  have e2 : IntKind.u64.wrap (t : Int) = (t : Int) := by rw [Go.IntKind.wrap_u64]; omega
  rw [e1, e2, u64_or_nat (2 ^ 8 * s) t (by omega) (by omega), ← Nat.two_pow_add_eq_or_of_lt (show t < 2 ^ 8 by omega) s]
  omega
theorem kindB_range {t : Int} (h : kindB t = true) : 0 ≤ t ∧ t ≤ 255 := by
  unfold kindB at h
  have := of_decide_eq_true h
  omega
theorem pack_eq (s t : Int) (s0 : 0 ≤ s) (s1 : s ≤ 72057594037927935) (ht : kindB t = true) : ikey_Pack.f s t = some (s * 256 + t, 0) := by
  have := kindB_range ht
  unfold ikey_Pack.f
  rw [if_neg (by omega), isKind_some, Option.bind_some]
  unfold kindB at ht
  rw [ht, if_pos rfl, pack_bits s t s0 s1 this.1 this.2]
theorem and255 (v : Int) (h0 : 0 ≤ v) (h1 : v < 18446744073709551616) : Go.bits .and .u64 v 255 = v % 256 := by
  obtain ⟨v, rfl⟩ := Int.eq_ofNat_of_zero_le h0
  have e := u64_and_nat v 255 (by omega) (by omega)
  rw [show ((255 : Nat) : Int) = 255 by rfl] at e
  have := Nat.and_two_pow_sub_one_eq_mod v 8
  rw [show 2 ^ 8 - 1 = 255 by rfl] at this
  rw [e, this]
  omega
theorem unpack_eq (v : Int) (h0 : 0 ≤ v) (h1 : v < 18446744073709551616) : ikey_Unpack.f v = some (if kindB (v % 256) = true then (v / 256, v % 256, 0) else (0, 0, 30)) := by
  unfold ikey_Unpack.f
  have w : wrap64 (v % 256) = v % 256 := by unfold wrap64; omega
  rw [and255 v h0 h1, w, isKind_some, Option.bind_some]
  unfold kindB
  split <;> rfl
theorem fixF_le : ∀ (l : List Int), Bytes l → fixF l.length (le l) = l
  | [], _ => rfl
  | b :: r, h => by
    have hb := h b List.mem_cons_self
    have ih := fixF_le r (fun x hx => h x (List.mem_cons_of_mem _ hx))
    have hl := (le_range r (fun x hx => h x (List.mem_cons_of_mem _ hx))).1
    simp only [List.length_cons, fixF, le]
    rw [show (b + 256 * le r) % 256 = b by omega, show (b + 256 * le r) / 256 = le r by omega, ih]
theorem bytesOf_nums (l : List Int) (hb : Bytes l) : bytesOf (strOfNums l) = l := by
  unfold bytesOf strOfNums
  simp only [List.map_map]
  conv => rhs; rw [← List.map_id l]
  apply List.map_congr_left
  intro x hx
  have := hb x hx
  simp
  omega
theorem nums_size (l : List Int) : (strOfNums l).size = l.length := by
  rw [← bytesOf_length]
  unfold bytesOf
  rw [List.length_map, strOfNums_data, List.length_map]
/-- what Decode answers -/
def decR (l : List Int) : ByteArray × Int × Int × Int := if l.length < 9 then (⟨#[]⟩, 0, 0, 30) else if l.length > 1032 then (⟨#[]⟩, 0, 0, 30) else
  if kindB (le (seg l (l.length - 8) 8) % 256) = true then (strOfNums (l.take (l.length - 8)), le (seg l (l.length - 8) 8) / 256, le (seg l (l.length - 8) 8) % 256, 0) else (⟨#[]⟩, 0, 0, 30)
theorem fixv_last (l : List Int) (h : 8 ≤ l.length) : fixv l ((l.length : Int) - 8) 8 = (le (seg l (l.length - 8) 8), (l.length : Int), 0) := by
  unfold fixv
  rw [if_neg (by omega), if_neg (by omega), if_neg (by omega), show ((l.length : Int) - 8).toNat = l.length - 8 by omega]
  congr 2
  omega
theorem decode_eq (k : Nat) (l : List Int) (hb : Bytes l) (hl : l.length ≤ 1099511627776) (hk : 10 ≤ k) : ikey_Decode.f k l = some (decR l) := by
  unfold ikey_Decode.f decR
  rw [if_pos (by omega)]
  by_cases h1 : l.length < 9
  · rw [if_pos (by omega), if_pos h1]
  · rw [if_neg (by omega), if_neg h1]
    by_cases h2 : l.length > 1032
    · rw [if_pos h2, if_pos (by omega)]
    · rw [if_neg h2, if_neg (by omega)]
      have hf := fixed_eq l ((l.length : Int) - 8) 8 k hb (by omega) (by omega) (by omega)
      rw [fixv_last l (by omega)] at hf
      have hs := le_small (seg l (l.length - 8) 8) (seg_bytes hb _ _) 8 (by unfold seg; rw [List.length_take]; omega) (by omega)
      have hf2 : codec_Fixed64.f k l ((l.length : Int) - 8) = some (le (seg l (l.length - 8) 8), (l.length : Int), 0) := by
        unfold codec_Fixed64.f
        exact (congrArg (fun o : Option (Int × Int × Int) => o.bind fun bt => some (bt.1, bt.2.1, bt.2.2)) hf).trans rfl
      rw [hf2, Option.bind_some, unpack_eq _ hs.1 hs.2, Option.bind_some]
      by_cases h3 : kindB (le (seg l (l.length - 8) 8) % 256) = true
      · rw [if_pos h3, if_pos h3, if_pos rfl]
      · rw [if_neg h3, if_neg h3, if_neg (by decide)]
/-- what Encode answers -/
def encK (a : ByteArray) (s t : Int) : List Int × Int := if validOf a s t = true then (bytesOf a ++ fixF 8 (s * 256 + t), 0) else ([], 2)
theorem validOf_parts {a : ByteArray} {s t : Int} (h : validOf a s t = true) : 1 ≤ a.size ∧ a.size ≤ 1024 ∧ s ≤ 72057594037927935 ∧ kindB t = true := by
  unfold validOf at h
  have := of_decide_eq_true h
  exact ⟨this.1, this.2.1, this.2.2.1, decide_eq_true this.2.2.2⟩
theorem validOf_mk {a : ByteArray} {s t : Int} (h1 : 1 ≤ a.size) (h2 : a.size ≤ 1024) (h3 : s ≤ 72057594037927935) (h4 : kindB t = true) : validOf a s t = true := by
  unfold kindB at h4
  unfold validOf
  exact decide_eq_true ⟨h1, h2, h3, of_decide_eq_true h4⟩
theorem encode_eq (k : Nat) (a : ByteArray) (s t : Int) (s0 : 0 ≤ s) (hk : 10 ≤ k) : ikey_Encode.f k a s t = some (encK a s t) := by
  unfold ikey_Encode.f encK
  rw [valid_some, Option.bind_some]
  by_cases h : validOf a s t = true
  · have hp := validOf_parts h
    rw [if_pos h, if_pos h, if_pos (by omega), pack_eq s t s0 hp.2.2.1 hp.2.2.2, Option.bind_some, PutFixed64_eq k _ _ hk (by rw [bytesOf_length]; omega), Option.bind_some]
  · rw [if_neg h, if_neg h]
/-- what was encoded is decoded as it was -/
theorem dec_enc (a : ByteArray) (s t : Int) (s0 : 0 ≤ s) (h : validOf a s t = true) : decR (bytesOf a ++ fixF 8 (s * 256 + t)) = (a, s, t, 0) := by
  have hp := validOf_parts h
  have hk := kindB_range hp.2.2.2
  have hl : (bytesOf a ++ fixF 8 (s * 256 + t)).length = a.size + 8 := by rw [List.length_append, bytesOf_length, fixF_len]
  have hs : seg (bytesOf a ++ fixF 8 (s * 256 + t)) a.size 8 = fixF 8 (s * 256 + t) := by
    have := seg_mid (bytesOf a) (fixF 8 (s * 256 + t)) []
    rw [List.append_nil, bytesOf_length, fixF_len] at this
    exact this
  have hv : le (fixF 8 (s * 256 + t)) = s * 256 + t := by
    rw [le_fixF 8 _ (by omega), show (256 : Int) ^ 8 = 18446744073709551616 by rfl]
    omega
  have ht : (bytesOf a ++ fixF 8 (s * 256 + t)).take a.size = bytesOf a := by
    have e : a.size = (bytesOf a).length := (bytesOf_length a).symm
    rw [e, List.take_left]
  unfold decR
  rw [hl, if_neg (by omega), if_neg (by omega), show a.size + 8 - 8 = a.size by omega, hs, hv, show (s * 256 + t) % 256 = t by omega, show (s * 256 + t) / 256 = s by omega, if_pos hp.2.2.2, ht, strOfNums_bytesOf]
/-- what was decoded is encoded as it was -/
theorem enc_dec (l : List Int) (hb : Bytes l) (h : (decR l).2.2.2 = 0) : encK (decR l).1 (decR l).2.1 (decR l).2.2.1 = (l, 0) := by
  unfold decR at h ⊢
  by_cases h1 : l.length < 9
  · rw [if_pos h1] at h; exact absurd h (by decide)
  · rw [if_neg h1] at h ⊢
    by_cases h2 : l.length > 1032
    · rw [if_pos h2] at h; exact absurd h (by decide)
    · rw [if_neg h2] at h ⊢
      by_cases h3 : kindB (le (seg l (l.length - 8) 8) % 256) = true
      · rw [if_pos h3]
        have hsl : (seg l (l.length - 8) 8).length = 8 := seg_len l _ _ (by omega)
        have hs := le_small (seg l (l.length - 8) 8) (seg_bytes hb _ _) 8 (by omega) (by omega)
        have hf := fixF_le (seg l (l.length - 8) 8) (seg_bytes hb _ _)
        rw [hsl] at hf
        have hv : validOf (strOfNums (l.take (l.length - 8))) (le (seg l (l.length - 8) 8) / 256) (le (seg l (l.length - 8) 8) % 256) = true := by
          have hz : (strOfNums (l.take (l.length - 8))).size = l.length - 8 := by rw [nums_size, List.length_take]; omega
          exact validOf_mk (by omega) (by omega) (by omega) h3
        simp only []
        unfold encK
        rw [if_pos hv, bytesOf_nums _ (hb.take _), show le (seg l (l.length - 8) 8) / 256 * 256 + le (seg l (l.length - 8) 8) % 256 = le (seg l (l.length - 8) 8) by omega, hf]
        congr 1
        unfold seg
        have : List.take 8 (List.drop (l.length - 8) l) = List.drop (l.length - 8) l := List.take_of_length_le (by rw [List.length_drop]; omega)
        rw [this, List.take_append_drop]
      · rw [if_neg h3] at h; exact absurd h (by decide)
theorem dec_bad (l : List Int) (h : (decR l).2.2.2 ≠ 0) : decR l = (⟨#[]⟩, 0, 0, 30) := by
  unfold decR at h ⊢
  split
  · rfl
  · split
    · rfl
    · split
      · rename_i h1 h2 h3
        rw [if_neg h1, if_neg h2, if_pos h3] at h
        exact absurd rfl h
      · rfl

end Go.Proofs.Ytdoolmomkffdaaa.G
