/- Contracts typed by hand: CheckLinear holds of every input within the form's reach -/
import Derived.Test.YtnapjjjomodmeaaDoorProg
import Derived.Below
import Derived.Deep.Draws
import Derived.Deep.AppendLies
import Derived.Maps.AppendAt
import Derived.OwnWalk
import Derived.Laws.BytesArg
import Derived.Laws.MakeOwn
import Derived.Laws.OwnMore
import Derived.Deep.OwnRows
import Derived.Tactics
import Derived.Lib.ConvBytes
import Derived.Laws.Slices
import Derived.WalkKit
import Derived.KernelRfl
import Derived.RowKit3
import Derived.Deep.LoopGhost
import Derived.Deep.QuietTactic
import Derived.BigQuiet
import Derived.WideLaws
import Derived.Deep.DeepCutAuto
import Derived.Deep.CutBlock
import Derived.Deep.RegionHeld3
import Derived.Laws.Rows
import Derived.Lib.AppendStr
import Derived.ArgAppend
import Derived.Laws.IdiomCopy
import Derived.OrdersHeld
import Derived.Laws.BitsLemmas
import Derived.RowKit
import Derived.Test.YtnapjjjomodmeaaDoorWWords
import Derived.Test.YtnapjjjomodmeaaDoorWLast
import Derived.Test.YtnapjjjomodmeaaDoorWTab
import Derived.Test.YtnapjjjomodmeaaDoorWFour
import Derived.Test.YtnapjjjomodmeaaDoorWQPut
import Derived.Test.YtnapjjjomodmeaaDoorWApart
import Derived.Test.YtnapjjjomodmeaaDoorWArr
import Derived.Test.YtnapjjjomodmeaaDoorWZeros
import Derived.Test.YtnapjjjomodmeaaDoorWFoot
import Derived.Test.YtnapjjjomodmeaaDoorWKept
import Derived.Test.YtnapjjjomodmeaaDoorWShare
import Derived.Test.YtnapjjjomodmeaaDoorWN
import Derived.Test.YtnapjjjomodmeaaDoorWFootNe
import Derived.Test.YtnapjjjomodmeaaDoorWAt
import Derived.Test.YtnapjjjomodmeaaDoorWEqStruct
import Derived.Test.YtnapjjjomodmeaaDoorWRepsOne
import Derived.Test.YtnapjjjomodmeaaDoorWInv
import Derived.Test.YtnapjjjomodmeaaDoorWInvWords
import Derived.Test.YtnapjjjomodmeaaDoorWGuard
import Derived.Test.YtnapjjjomodmeaaDoorWNEv
import Derived.Test.YtnapjjjomodmeaaDoorWMore
import Derived.Test.YtnapjjjomodmeaaDoorLawCheckPure
import Derived.Test.YtnapjjjomodmeaaDoorOpens
import Derived.Test.YtnapjjjomodmeaaDoorGx13
namespace Go.Proofs.YtnapjjjomodmeaaDoor.G
open Go.RowKit Go.Proofs.YtnapjjjomodmeaaDoorW.PrintWords Go.Proofs.YtnapjjjomodmeaaDoorW.PrintLast Go.Proofs.YtnapjjjomodmeaaDoorW.PrintMore
attribute [local go_sem] max2_int min2_int max_two min_two max_three min_three max_four min_four
set_option linter.unusedVariables false
set_option linter.unusedSimpArgs false

/-! CheckLinear holds of every input within the form's reach -/
theorem mn_le (a b : Int) : mn a b ≤ a ∧ mn a b ≤ b ∧ (mn a b = a ∨ mn a b = b) := by unfold mn; split <;> omega
theorem xor8 (a b : Int) (a0 : 0 ≤ a) (a1 : a < 256) (b0 : 0 ≤ b) (b1 : b < 256) : bits .xor .u8 a b = ((a.toNat ^^^ b.toNat : Nat) : Int) ∧ a.toNat ^^^ b.toNat < 256 := by
  obtain ⟨x, rfl⟩ := Int.eq_ofNat_of_zero_le a0
  obtain ⟨y, rfl⟩ := Int.eq_ofNat_of_zero_le b0
  exact ⟨u8_xor_nat x y (by omega) (by omega), Nat.xor_lt_two_pow (n := 8) (by simp only [Int.toNat_natCast]; omega) (by simp only [Int.toNat_natCast]; omega)⟩
def x3 (a b c : Int) : Int := bits .xor .u8 (bits .xor .u8 a b) c
theorem x3_nat (a b c : Int) (a0 : 0 ≤ a) (a1 : a < 256) (b0 : 0 ≤ b) (b1 : b < 256) (c0 : 0 ≤ c) (c1 : c < 256) : x3 a b c = ((a.toNat ^^^ b.toNat ^^^ c.toNat : Nat) : Int) ∧ a.toNat ^^^ b.toNat ^^^ c.toNat < 256 := by
  obtain ⟨h1, h2⟩ := xor8 a b a0 a1 b0 b1
  obtain ⟨h3, h4⟩ := xor8 ((a.toNat ^^^ b.toNat : Nat) : Int) c (by omega) (by omega) c0 c1
  rw [Int.toNat_natCast] at h3 h4
  unfold x3
  rw [h1]
  exact ⟨h3, h4⟩
structure Lin3 (a b c d : List Int) (n i : Nat) : Prop where
  len : d.length = n
  byt : Byt d
  at_ : ∀ j, j < i → j < n → rd d (j : Int) = x3 (rd a j) (rd b j) (rd c j)
theorem byt_rd {l : List Int} (h : Byt l) (i : Nat) : 0 ≤ rd l (i : Int) ∧ rd l (i : Int) < 256 := by
  unfold rd
  rw [Int.toNat_natCast, List.getD_eq_getElem?_getD]
  by_cases hi : i < l.length
  · rw [List.getElem?_eq_getElem hi]
    exact h _ (List.getElem_mem hi)
  · rw [List.getElem?_eq_none (by omega)]
    simp
theorem byt_put {f : List Int} (h : Byt f) (i : Nat) {v : Int} (h0 : 0 ≤ v) (h1 : v < 256) : Byt (f.set i v) := by
  intro x hx
  rcases List.mem_or_eq_of_mem_set hx with hx | rfl
  · exact h x hx
  · exact ⟨h0, h1⟩
theorem rd_put (f : List Int) (i j : Nat) (v : Int) (hl : i < f.length) : rd (f.set i v) (j : Int) = if i = j then v else rd f (j : Int) := by
  unfold rd
  rw [Int.toNat_natCast, List.getD_eq_getElem?_getD, List.getD_eq_getElem?_getD, List.getElem?_set]
  by_cases h : i = j
  · subst h
    rw [if_pos rfl, if_pos rfl, if_pos hl]
    rfl
  · rw [if_neg h, if_neg h]
theorem Lin3.step {a b c d : List Int} {n i : Nat} (h : Lin3 a b c d n i) (ha : Byt a) (hb : Byt b) (hc : Byt c) (hi : i < n) : Lin3 a b c (d.set i (x3 (rd a i) (rd b i) (rd c i))) n (i + 1) where
  len := by rw [List.length_set, h.len]
  byt := by
    have q1 := byt_rd ha i; have q2 := byt_rd hb i; have q3 := byt_rd hc i
    obtain ⟨e, l⟩ := x3_nat _ _ _ q1.1 q1.2 q2.1 q2.2 q3.1 q3.2
    exact byt_put h.byt i (by omega) (by omega)
  at_ := by
    intro j hj hjn
    rw [rd_put d i j _ (by have := h.len; omega)]
    by_cases e : i = j
    · subst e; rw [if_pos rfl]
    · rw [if_neg e]; exact h.at_ j (by omega) hjn
theorem natl_len (l : List Int) : (natl l).length = l.length := by unfold natl; rw [List.length_map]
theorem natl_at (l : List Int) (i : Nat) (h : i < l.length) (h2 : i < (natl l).length) : (natl l)[i] = (rd l (i : Int)).toNat := by
  rw [rd_at l i h]
  exact List.getElem_map Int.toNat
theorem lin3_sum {a b c d : List Int} {n : Nat} (h : Lin3 a b c d n n) (ha : Byt a) (hb : Byt b) (hc : Byt c) (la : a.length = n) (lb : b.length = n) (lc : c.length = n) : ext 0 a ^^^ ext 0 b ^^^ ext 0 c = ext 0 d := by
  have e : natl d = List.zipWith (· ^^^ ·) (List.zipWith (· ^^^ ·) (natl a) (natl b)) (natl c) := by
    apply List.ext_getElem
    · simp only [List.length_zipWith, natl_len, la, lb, lc, h.len, Nat.min_self]
    · intro i h1 h2
      rw [natl_len] at h1
      have hn : i < n := by have := h.len; omega
      have q1 := byt_rd ha i; have q2 := byt_rd hb i; have q3 := byt_rd hc i
      obtain ⟨e, l⟩ := x3_nat _ _ _ q1.1 q1.2 q2.1 q2.2 q3.1 q3.2
      rw [natl_at d i h1, h.at_ i hn hn, e, Int.toNat_natCast]
      simp only [List.getElem_zipWith]
      rw [natl_at a i (by omega), natl_at b i (by omega), natl_at c i (by omega)]
  unfold ext
  rw [e]
  have l1 : (natl a).length = (natl b).length := by rw [natl_len, natl_len, la, lb]
  have l2 : (List.zipWith (· ^^^ ·) (natl a) (natl b)).length = (natl c).length := by rw [List.length_zipWith, natl_len, natl_len, natl_len, la, lb, lc, Nat.min_self]
  have h1 := crcB_xor (natl a) (natl b) (inv 0) (inv 0) l1
  have h2 := crcB_xor (List.zipWith (· ^^^ ·) (natl a) (natl b)) (natl c) (inv 0 ^^^ inv 0) (inv 0) l2
  rw [h1] at h2
  have e3 : (inv 0 ^^^ inv 0) ^^^ inv 0 = inv 0 := by rw [Nat.xor_self, Nat.zero_xor]
  rw [e3] at h2
  rw [h2]
  generalize crcB (inv 0) (natl a) = x
  generalize crcB (inv 0) (natl b) = y
  generalize crcB (inv 0) (natl c) = z
  simp only [inv_def]
  rw [xor_mid ones x ones y, Nat.xor_self, Nat.zero_xor, ← Nat.xor_assoc, Nat.xor_comm (x ^^^ y) ones, Nat.xor_assoc]
theorem linear_loop (a b c : List Int) (ha : Byt a) (hb : Byt b) (hc : Byt c) (n : Nat) (hn : n ≤ 1048576) (la : n ≤ a.length) (lb : n ≤ b.length) (lc : n ≤ c.length) (K : Nat) (hK : n + 1 ≤ K) : ∀ (d i : Nat) (D : List Int), i + d = n → Lin3 a b c D n i → morainelaw02_CheckLinear.l0 (K + d + 1) a b c (n : Int) D (i : Int) = some true
  | 0, i, D, hi, hD => by
    obtain rfl : i = n := by omega
    have c1 : 0 ≤ (i : Int) := by omega
    have c2 : (i : Int) ≤ (a.length : Int) := by omega
    have c3 : (i : Int) ≤ (b.length : Int) := by omega
    have c4 : (i : Int) ≤ (c.length : Int) := by omega
    have tl : ∀ l : List Int, i ≤ l.length → (l.take i).length = i := fun l h => by rw [List.length_take]; omega
    have s1 := sum_eq K (a.take i) (ha.take i) (by rw [tl a la]; omega) (by rw [tl a la]; omega)
    have s2 := sum_eq K (b.take i) (hb.take i) (by rw [tl b lb]; omega) (by rw [tl b lb]; omega)
    have s3 := sum_eq K (c.take i) (hc.take i) (by rw [tl c lc]; omega) (by rw [tl c lc]; omega)
    have s4 := sum_eq K D hD.byt (by rw [hD.len]; omega) (by rw [hD.len]; omega)
    have rt : ∀ (l : List Int) (j : Nat), j < i → rd (l.take i) (j : Int) = rd l (j : Int) := fun l j hj => by
      unfold rd
      rw [Int.toNat_natCast, List.getD_eq_getElem?_getD, List.getD_eq_getElem?_getD, List.getElem?_take, if_pos hj]
    have hL : Lin3 (a.take i) (b.take i) (c.take i) D i i := ⟨hD.len, hD.byt, fun j h1 h2 => by rw [rt a j h1, rt b j h1, rt c j h1]; exact hD.at_ j h1 h2⟩
    have hs := lin3_sum hL (ha.take i) (hb.take i) (hc.take i) (tl a la) (tl b lb) (tl c lc)
    have z := show (0 : Nat) < 4294967296 by omega
    have x1 := ext_lt z (ha.take i)
    have x2 := ext_lt z (hb.take i)
    have x3' := ext_lt z (hc.take i)
    rw [morainelaw02_CheckLinear.l0, if_neg (by omega), if_pos c1, if_pos c2, Int.toNat_natCast, s1, Option.bind_some, if_pos c3, s2, Option.bind_some, if_pos c4, s3, Option.bind_some, s4, Option.bind_some, u32_xor_nat _ _ x1 x2, u32_xor_nat _ _ (xor_lt x1 x2) x3', hs, beq_self_eq_true]
  | d + 1, i, D, hi, hD => by
    have c0 : (i : Int) < (n : Int) := by omega
    have c1 : 0 ≤ (i : Int) := by omega
    have c2 : (i : Int) < (a.length : Int) := by omega
    have c3 : (i : Int) < (b.length : Int) := by omega
    have c4 : (i : Int) < (c.length : Int) := by omega
    have c5 : (i : Int) < (D.length : Int) := by have := hD.len; omega
    have e5 : wrap64 ((i : Int) + 1) = ((i + 1 : Nat) : Int) := (wr _ (by omega) (by omega)).trans (by omega)
    rw [show K + (d + 1) + 1 = (K + d + 1) + 1 by omega, morainelaw02_CheckLinear.l0, if_pos c0, if_pos c1, if_pos c2, if_pos c3, if_pos c4, if_pos c5, e5, Int.toNat_natCast]
    exact linear_loop a b c ha hb hc n hn la lb lc K hK d (i + 1) _ (by omega) (hD.step ha hb hc (by omega))
theorem byt_zeros (n : Nat) : Byt (List.replicate n 0) := by
  intro x hx
  rw [List.mem_replicate] at hx
  omega
theorem CheckLinear_pure (a b c : List Int) (ha : Byt a) (hb : Byt b) (hc : Byt c) (hl : a.length + b.length + c.length ≤ 1048576) : ∃ k, morainelaw02_CheckLinear.f k a b c = some true := by
  obtain ⟨n, hn⟩ : ∃ n : Nat, mn (mn (a.length : Int) (b.length : Int)) (c.length : Int) = (n : Int) := ⟨(mn (mn (a.length : Int) (b.length : Int)) (c.length : Int)).toNat, by
    have h1 := mn_le (a.length : Int) (b.length : Int)
    have h2 := mn_le (mn (a.length : Int) (b.length : Int)) (c.length : Int)
    omega⟩
  have h1 := mn_le (a.length : Int) (b.length : Int)
  have h2 := mn_le (mn (a.length : Int) (b.length : Int)) (c.length : Int)
  rw [hn] at h2
  refine ⟨(n + 10) + n + 1, ?_⟩
  unfold morainelaw02_CheckLinear.f
  have c1 : 0 ≤ (n : Int) := by omega
  have c2 : n ≤ 281474976710656 := by omega
  rw [works_eq _ (by omega), Option.bind_some, if_pos rfl, hn, if_pos c1, Int.toNat_natCast, if_pos c2]
  have := linear_loop a b c ha hb hc n (by omega) (by omega) (by omega) (by omega) (n + 10) (by omega) n 0 (List.replicate n 0) (by omega) ⟨List.length_replicate, byt_zeros n, fun j h _ => by omega⟩
  rw [show ((0 : Nat) : Int) = 0 by rfl] at this
  exact this
theorem CheckLinear_upto (w : World) (A0 : Option Addr) (c0 : Nat) (l0 : List Int) (hc0 : l0.length ≤ c0) (hr0 : Kd.C (Kd.int .u8) w A0 l0.length l0) (hg0 : ∀ x ∈ l0, (Lit.int .u8 x).wf = true)
    (A1 : Option Addr) (c1 : Nat) (l1 : List Int) (hc1 : l1.length ≤ c1) (hr1 : Kd.C (Kd.int .u8) w A1 l1.length l1) (hg1 : ∀ x ∈ l1, (Lit.int .u8 x).wf = true)
    (A2 : Option Addr) (c2 : Nat) (l2 : List Int) (hc2 : l2.length ≤ c2) (hr2 : Kd.C (Kd.int .u8) w A2 l2.length l2) (hg2 : ∀ x ∈ l2, (Lit.int .u8 x).wf = true)
    (hbulk : (sumBulk (fun _ => 1) l0 + 1) + ((sumBulk (fun _ => 1) l1 + 1) + (sumBulk (fun _ => 1) l2 + 1)) ≤ 1048576) (hTab : TabAt w) :
    Calls Tryd.prog 5 #[.slice A0 l0.length c0, .slice A1 l1.length c1, .slice A2 l2.length c2] w fun e w' => e = .returned (.bool true) ∧ Below w.heap.size w w' := by
  have n0 := sumBulk_len (fun _ => 1) (fun _ => Nat.le_refl 1) l0
  have n1 := sumBulk_len (fun _ => 1) (fun _ => Nat.le_refl 1) l1
  have n2 := sumBulk_len (fun _ => 1) (fun _ => Nat.le_refl 1) l2
  (try simp only [] at hbulk)
  obtain ⟨k, hk⟩ := CheckLinear_pure l0 l1 l2 (byt_of_wf hg0) (byt_of_wf hg1) (byt_of_wf hg2) (by omega)
  exact morainelaw02_CheckLinear.calls k A0 c0 l0 A1 c1 l1 A2 c2 l2 true w hr0 hc0 hr1 hc1 hr2 hc2 hk hTab

end Go.Proofs.YtnapjjjomodmeaaDoor.G
