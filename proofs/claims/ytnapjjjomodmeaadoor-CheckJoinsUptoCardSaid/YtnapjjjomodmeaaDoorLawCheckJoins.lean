/- Contracts typed by hand: CheckJoins: what the sums of parts come to -/
import Derived.Test.YtnapjjjomodmeaaDoorProg
import Derived.Below
import Derived.Deep.Draws
import Derived.Deep.AppendLies
import Derived.Maps.AppendAt
import Derived.OwnWalk
import Derived.Laws.BytesArg
import Derived.Laws.MakeOwn
import Derived.Laws.OwnMore
import Derived.Deep.OwnRows
import Derived.Tactics
import Derived.Lib.ConvBytes
import Derived.Laws.Slices
import Derived.WalkKit
import Derived.KernelRfl
import Derived.RowKit3
import Derived.Deep.LoopGhost
import Derived.Deep.QuietTactic
import Derived.BigQuiet
import Derived.WideLaws
import Derived.Deep.DeepCutAuto
import Derived.Deep.CutBlock
import Derived.Deep.RegionHeld3
import Derived.Laws.Rows
import Derived.Lib.AppendStr
import Derived.ArgAppend
import Derived.Laws.IdiomCopy
import Derived.OrdersHeld
import Derived.Laws.BitsLemmas
import Derived.RowKit
import Derived.Test.YtnapjjjomodmeaaDoorWWords
import Derived.Test.YtnapjjjomodmeaaDoorWLast
import Derived.Test.YtnapjjjomodmeaaDoorWTab
import Derived.Test.YtnapjjjomodmeaaDoorWFour
import Derived.Test.YtnapjjjomodmeaaDoorWQPut
import Derived.Test.YtnapjjjomodmeaaDoorWApart
import Derived.Test.YtnapjjjomodmeaaDoorWArr
import Derived.Test.YtnapjjjomodmeaaDoorWZeros
import Derived.Test.YtnapjjjomodmeaaDoorWFoot
import Derived.Test.YtnapjjjomodmeaaDoorWKept
import Derived.Test.YtnapjjjomodmeaaDoorWShare
import Derived.Test.YtnapjjjomodmeaaDoorWN
import Derived.Test.YtnapjjjomodmeaaDoorWFootNe
import Derived.Test.YtnapjjjomodmeaaDoorWAt
import Derived.Test.YtnapjjjomodmeaaDoorWEqStruct
import Derived.Test.YtnapjjjomodmeaaDoorWRepsOne
import Derived.Test.YtnapjjjomodmeaaDoorWInv
import Derived.Test.YtnapjjjomodmeaaDoorWInvWords
import Derived.Test.YtnapjjjomodmeaaDoorWGuard
import Derived.Test.YtnapjjjomodmeaaDoorWNEv
import Derived.Test.YtnapjjjomodmeaaDoorWMore
import Derived.Test.YtnapjjjomodmeaaDoorManRun02b
namespace Go.Proofs.YtnapjjjomodmeaaDoor.G
open Go.RowKit Go.Proofs.YtnapjjjomodmeaaDoorW.PrintWords Go.Proofs.YtnapjjjomodmeaaDoorW.PrintLast Go.Proofs.YtnapjjjomodmeaaDoorW.PrintMore
attribute [local go_sem] max2_int min2_int max_two min_two max_three min_three max_four min_four
set_option linter.unusedVariables false
set_option linter.unusedSimpArgs false

/-! CheckJoins: what the sums of parts come to -/
theorem natl_app (a b : List Int) : natl (a ++ b) = natl a ++ natl b := by unfold natl; rw [List.map_append]
theorem natl_length (a : List Int) : (natl a).length = a.length := by unfold natl; rw [List.length_map]
theorem xor_four (a b c d : Nat) : (a ^^^ b) ^^^ (c ^^^ (a ^^^ d)) = c ^^^ (b ^^^ d) := by
  rw [Nat.xor_comm a b, Nat.xor_comm c, Nat.xor_assoc b a, ← Nat.xor_assoc a, ← Nat.xor_assoc a, Nat.xor_self, Nat.zero_xor, Nat.xor_comm d c, ← Nat.xor_assoc, Nat.xor_comm b c, Nat.xor_assoc]
theorem ext_join (a b : List Int) : crcN (8 * b.length) (ext 0 a) ^^^ ext 0 b = ext 0 (a ++ b) := by
  unfold ext
  rw [natl_app, crcB_append, crcB_split (natl b) (crcB (inv 0) (natl a)), crcB_split (natl b) (inv 0), natl_length]
  generalize crcB (inv 0) (natl a) = z
  rw [inv_def z, crcN_xor, inv_def (crcN _ _ ^^^ _), inv_def (crcN _ z ^^^ _), show inv 0 = ones by rw [inv_def, Nat.xor_zero]]
  generalize crcN (8 * b.length) ones = p
  generalize crcN (8 * b.length) z = q
  generalize crcB 0 (natl b) = r
  exact xor_four p q ones r
theorem natl_zeros (n : Nat) : natl (List.replicate n 0) = List.replicate n 0 := by
  unfold natl
  rw [List.map_replicate]
  rfl
theorem ext_zeros (a : List Int) (n : Nat) : inv (crcN (8 * n) (inv (ext 0 a))) = ext 0 (a ++ List.replicate n 0) := by
  unfold ext
  rw [inv_inv, natl_app, natl_zeros, crcB_append, crcB_zeros]
theorem combine_eq (a b : List Int) (ha : Byt a) (hb : Byt b) (hl : b.length ≤ 1099511627776) : check_Combine.f ((ext 0 a : Nat) : Int) ((ext 0 b : Nat) : Int) (b.length : Int) = some (((ext 0 (a ++ b) : Nat) : Int), 0) := by
  have e1 : ext 0 a < 4294967296 := ext_lt (by omega) ha
  have e2 : ext 0 b < 4294967296 := ext_lt (by omega) hb
  unfold check_Combine.f check_noughts.f
  rw [if_neg (by omega), if_pos ⟨Int.natCast_nonneg _, Int.ofNat_lt.2 e1, Int.natCast_nonneg _, by omega⟩, Option.bind_some, Int.toNat_natCast, Int.toNat_natCast, u32_xor_nat _ _ (crcN_lt _ e1) e2, ext_join]
theorem zeros_eq (a : List Int) (n : Nat) (ha : Byt a) (hn : n ≤ 1099511627776) : check_Zeros.f ((ext 0 a : Nat) : Int) (n : Int) = some (((ext 0 (a ++ List.replicate n 0) : Nat) : Int), 0) := by
  have e1 : ext 0 a < 4294967296 := ext_lt (by omega) ha
  unfold check_Zeros.f check_noughts.f
  rw [if_neg (by omega), inv_int _ e1, if_pos ⟨Int.natCast_nonneg _, Int.ofNat_lt.2 (inv_lt e1), Int.natCast_nonneg _, by omega⟩, Option.bind_some, Int.toNat_natCast, Int.toNat_natCast, inv_int _ (crcN_lt _ (inv_lt e1)), ext_zeros]
theorem bytes_byt (t : ByteArray) : Byt (bytesOf t) := fun x hx => by
  unfold bytesOf at hx
  obtain ⟨b, _, rfl⟩ := List.mem_map.1 hx
  have := b.toNat_lt
  omega
theorem exttext_loop (t : ByteArray) (hl : t.size ≤ 1099511627776) : ∀ (d i k : Nat) (r : Nat), i + d = t.size → r < 4294967296 → check_extendText.l0 (k + d + 1) t (r : Int) (t.size : Int) (i : Int) = some ((inv (crcB r (natl ((bytesOf t).drop i))) : Nat) : Int)
  | 0, i, k, r, hi, hr => by
    obtain rfl : i = t.size := by omega
    rw [check_extendText.l0, if_neg (by omega), ← bytesOf_length, List.drop_length, inv_int r hr]
    rfl
  | d + 1, i, k, r, hi, hr => by
    have hil : i < (bytesOf t).length := by rw [bytesOf_length]; omega
    obtain ⟨b0, b1⟩ := bytes_byt t _ (List.getElem_mem hil)
    have c0 : (i : Int) < (t.size : Int) := by omega
    have c1 : 0 ≤ (i : Int) := by omega
    have e5 : wrap64 ((i : Int) + 1) = ((i + 1 : Nat) : Int) := (wr _ (by omega) (by omega)).trans (by omega)
    have hbt : bt t (i : Int) = (bytesOf t)[i] := by rw [← rd_bytesOf, rd_at _ i hil]
    have ht : check_take.f (r : Int) (bytesOf t)[i] = some ((crcN 8 (r ^^^ (bytesOf t)[i].toNat) : Nat) : Int) := by
      unfold check_take.f
      rw [if_pos ⟨by omega, by omega, b0, b1⟩, Int.toNat_natCast]
    rw [show k + (d + 1) + 1 = (k + d + 1) + 1 by omega, check_extendText.l0, if_pos c0, if_pos c1, if_pos c0, hbt, ht, Option.bind_some, e5]
    rw [exttext_loop t hl d (i + 1) k _ (by omega) (crcN_lt 8 (xor_lt hr (by omega)))]
    rw [List.drop_eq_getElem_cons hil]
    rfl
theorem exttext_eq (k s : Nat) (t : ByteArray) (hs : s < 4294967296) (hl : t.size ≤ 1099511627776) (hk : t.size + 1 ≤ k) : check_extendText.f k (s : Int) t = some ((ext s (bytesOf t) : Nat) : Int) := by
  obtain ⟨k, rfl⟩ : ∃ m, k = m + t.size + 1 := ⟨k - t.size - 1, by omega⟩
  unfold check_extendText.f
  rw [inv_int s hs]
  have := exttext_loop t hl t.size 0 k (inv s) (by omega) (inv_lt hs)
  rw [List.drop_zero] at this
  exact this
theorem bytes_of_nums (l : List Int) (hb : Byt l) : bytesOf (strOfNums l) = l := by
  unfold bytesOf strOfNums
  simp only [List.map_map]
  conv => rhs; rw [← List.map_id l]
  apply List.map_congr_left
  intro x hx
  have := hb x hx
  simp
  omega

end Go.Proofs.YtnapjjjomodmeaaDoor.G
