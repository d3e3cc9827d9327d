/- Contracts typed by hand: the order of internal keys: what Compare comes to -/
import Derived.Test.YtdoolmomkffdaaaProg
import Derived.Below
import Derived.Deep.Draws
import Derived.Deep.AppendLies
import Derived.Maps.AppendAt
import Derived.OwnWalk
import Derived.Laws.BytesArg
import Derived.Laws.MakeOwn
import Derived.Laws.OwnMore
import Derived.Deep.OwnRows
import Derived.Tactics
import Derived.Lib.ConvBytes
import Derived.Laws.Slices
import Derived.WalkKit
import Derived.KernelRfl
import Derived.RowKit3
import Derived.Deep.LoopGhost
import Derived.Deep.QuietTactic
import Derived.BigQuiet
import Derived.WideLaws
import Derived.Deep.DeepCutAuto
import Derived.Deep.CutBlock
import Derived.Deep.RegionHeld3
import Derived.Laws.Rows
import Derived.Lib.AppendStr
import Derived.ArgAppend
import Derived.Laws.IdiomCopy
import Derived.OrdersHeld
import Derived.Laws.BitsLemmas
import Derived.RowKit
import Derived.Test.YtdoolmomkffdaaaWWords
import Derived.Test.YtdoolmomkffdaaaWLast
import Derived.Test.YtdoolmomkffdaaaWTab
import Derived.Test.YtdoolmomkffdaaaWFour
import Derived.Test.YtdoolmomkffdaaaWQPut
import Derived.Test.YtdoolmomkffdaaaWApart
import Derived.Test.YtdoolmomkffdaaaWArr
import Derived.Test.YtdoolmomkffdaaaWZeros
import Derived.Test.YtdoolmomkffdaaaWFoot
import Derived.Test.YtdoolmomkffdaaaWKept
import Derived.Test.YtdoolmomkffdaaaWShare
import Derived.Test.YtdoolmomkffdaaaWN
import Derived.Test.YtdoolmomkffdaaaWFootNe
import Derived.Test.YtdoolmomkffdaaaWAt
import Derived.Test.YtdoolmomkffdaaaWEqStruct
import Derived.Test.YtdoolmomkffdaaaWRepsOne
import Derived.Test.YtdoolmomkffdaaaWInv
import Derived.Test.YtdoolmomkffdaaaWInvWords
import Derived.Test.YtdoolmomkffdaaaWGuard
import Derived.Test.YtdoolmomkffdaaaWNEv
import Derived.Test.YtdoolmomkffdaaaWMore
import Derived.Test.YtdoolmomkffdaaaPureOrd
import Derived.Test.YtdoolmomkffdaaaManStrCmp
import Derived.Lib.Strings
import Derived.Test.YtdoolmomkffdaaaGx10
import Derived.Test.YtdoolmomkffdaaaGx17
import Derived.Test.YtdoolmomkffdaaaGx14
import Derived.Test.YtdoolmomkffdaaaGx16
namespace Go.Proofs.Ytdoolmomkffdaaa.G
open Go.RowKit Go.Proofs.YtdoolmomkffdaaaW.PrintWords Go.Proofs.YtdoolmomkffdaaaW.PrintLast Go.Proofs.YtdoolmomkffdaaaW.PrintMore
attribute [local go_sem] max2_int min2_int max_two min_two max_three min_three max_four min_four
set_option linter.unusedVariables false
set_option linter.unusedSimpArgs false

/-! the order of internal keys: what Compare comes to -/
theorem or_int (k : Nat) (x y z : Int) : cmp_Or_int.f (k + 4) [x, y, z] = some (or3 x y z) := by
  have w1 : wrap64 (0 + 1) = 1 := by unfold wrap64; omega
  have w2 : wrap64 (1 + 1) = 2 := by unfold wrap64; omega
  have w3 : wrap64 (2 + 1) = 3 := by unfold wrap64; omega
  have hl : ((([x, y, z] : List Int).length : Nat) : Int) = 3 := rfl
  have r0 : rd [x, y, z] 0 = x := rfl
  have r1 : rd [x, y, z] 1 = y := rfl
  have r2 : rd [x, y, z] 2 = z := rfl
  unfold cmp_Or_int.f or3
  rw [hl, cmp_Or_int.l0, hl, if_pos (by omega), if_pos (by omega), if_pos (by omega), r0]
  by_cases hx : x = 0
  · rw [if_pos hx, if_pos hx, w1, cmp_Or_int.l0, hl, if_pos (by omega), if_pos (by omega), if_pos (by omega), r1]
    by_cases hy : y = 0
    · rw [if_pos hy, if_pos hy, w2, cmp_Or_int.l0, hl, if_pos (by omega), if_pos (by omega), if_pos (by omega), r2]
      by_cases hz : z = 0
      · rw [if_pos hz, w3, cmp_Or_int.l0, if_neg (by omega), hz]
      · rw [if_neg hz]
    · rw [if_neg hy, if_neg hy]
  · rw [if_neg hx, if_neg hx]
theorem cmp_u64 (x y : Int) : cmp_Compare_uint64.f x y = some (ic x y) := by
  unfold cmp_Compare_uint64.f cmp_isNaN_uint64.f ic
  simp only [bne_self_eq_false, Option.bind_some, Bool.false_eq_true, if_false, gt_iff_lt]
  split
  · rfl
  · split <;> rfl
theorem cmp_i64 (x y : Int) : cmp_Compare_int.f x y = some (ic x y) := by
  unfold cmp_Compare_int.f cmp_isNaN_int.f ic
  simp only [bne_self_eq_false, Option.bind_some, Bool.false_eq_true, if_false, gt_iff_lt]
  split
  · rfl
  · split <;> rfl
theorem compare_eq (k : Nat) (a : ByteArray) (s t : Int) (b : ByteArray) (u v : Int) : ikey_Compare.f (k + 4) a s t b u v = some (kc a.toList s t b.toList u v) := by
  unfold ikey_Compare.f strings_Compare.f
  rw [Option.bind_some, cmp_u64, Option.bind_some, cmp_i64, Option.bind_some, or_int, Option.bind_some]
  unfold kc cb
  rw [Lib.toList_data, Lib.toList_data]
theorem ic_ref (t v : Int) : (if t = v then some 0 else (if t > v then some (-1) else some 1)) = some (ic v t) := by
  by_cases h : t = v
  · rw [if_pos h, (ic_iff v t).2 h.symm]
  · rw [if_neg h]
    unfold ic
    by_cases h2 : t > v
    · rw [if_pos h2, if_pos h2]
    · rw [if_neg h2, if_neg h2, if_pos (by omega)]
theorem kc_ref (a b : List UInt8) (s t u v : Int) : (if a = b then (if s = u then (if t = v then some 0 else (if t > v then some (-1) else some 1)) else (if s > u then some (-1) else some 1)) else (if Op.bytesLess a b = true then some (-1) else some 1)) = some (kc a s t b u v) := by
  unfold kc or3
  by_cases h : a = b
  · subst h
    rw [if_pos rfl, cb_self, if_pos rfl, ic_ref]
    by_cases h2 : s = u
    · subst h2
      rw [if_pos rfl, (ic_iff s s).2 rfl, if_pos rfl]
    · rw [if_neg h2, if_neg (fun e => h2 ((ic_iff u s).1 e).symm)]
      have := ic_ref s u
      rw [if_neg h2] at this
      exact this
  · have h0 : ¬ cb a b = 0 := fun e => h (cb_eq _ _ e)
    rw [if_neg h, if_neg h0, less_cb]
    rcases cb_rng a b with e | e | e
    · rw [e]; rfl
    · exact absurd e h0
    · rw [e]; rfl
theorem refcompare_eq (a : ByteArray) (s t : Int) (b : ByteArray) (u v : Int) : moraineref03_Compare.f a s t b u v = some (kc a.toList s t b.toList u v) := by
  unfold moraineref03_Compare.f
  exact kc_ref _ _ _ _ _ _
theorem isKind_eq (a : Int) : ikey_isKind.f a = moraineref03_kind.f a := by
  unfold ikey_isKind.f moraineref03_kind.f
  split
  · rfl
  · split
    · rfl
    · split
      · rfl
      · split
        · rename_i h; rw [h]; rfl
        · rename_i h; rw [beq_eq_false_iff_ne.2 h]
theorem toList_nil (s : ByteArray) : s.toList = [] ↔ ¬ (s.size : Int) ≥ 1 := by
  rw [Lib.toList_data, ← List.length_eq_zero_iff, data_length]
  omega
theorem valid_eq (a : ByteArray) (s t : Int) : ikey_Valid.f a s t = moraineref03_Valid.f a s t := by
  unfold ikey_Valid.f moraineref03_Valid.f
  by_cases h : a.toList = []
  · rw [if_pos h, if_neg ((toList_nil a).1 h)]
  · rw [if_neg h, if_pos (show (a.size : Int) ≥ 1 from Decidable.of_not_not (mt (toList_nil a).2 h)), isKind_eq]
theorem isKind_some (a : Int) : ikey_isKind.f a = some (decide (a = 0 ∨ a = 1 ∨ a = 2 ∨ a = 255)) := by
  unfold ikey_isKind.f
  split
  · simp [*]
  · split
    · simp [*]
    · split
      · simp [*]
      · split
        · simp [*]
        · simp [*]
def validOf (a : ByteArray) (s t : Int) : Bool := decide (1 ≤ a.size ∧ a.size ≤ 1024 ∧ s ≤ 72057594037927935 ∧ (t = 0 ∨ t = 1 ∨ t = 2 ∨ t = 255))
theorem valid_some (a : ByteArray) (s t : Int) : ikey_Valid.f a s t = some (validOf a s t) := by
  unfold ikey_Valid.f validOf
  rw [isKind_some, Option.bind_some]
  by_cases h : a.toList = []
  · have := (toList_nil a).1 h
    rw [if_pos h, decide_eq_false (by omega)]
  · have := mt (toList_nil a).2 h
    rw [if_neg h]
    by_cases h1 : (a.size : Int) ≤ 1024
    · rw [if_pos h1]
      by_cases h2 : s ≤ 72057594037927935
      · rw [if_pos h2]
        congr 1
        rw [Bool.eq_iff_iff]
        simp only [decide_eq_true_eq]
        omega
      · rw [if_neg h2, decide_eq_false (by omega)]
    · rw [if_neg h1, decide_eq_false (by omega)]
theorem open_ikey {w : World} {x : ByteArray × Int × Int} {cs : Array Value} (h : (Kd.pair Kd.string (Kd.pair (Kd.int .u64) (Kd.int .i64))).K w x cs.toList) : cs = #[.string x.1, .int .u64 x.2.1, .int .i64 x.2.2] := by
  obtain ⟨_, _, hcs, rfl, _, _, rfl, rfl, rfl⟩ := h
  apply Array.toList_inj.1
  simpa using hcs

end Go.Proofs.Ytdoolmomkffdaaa.G
