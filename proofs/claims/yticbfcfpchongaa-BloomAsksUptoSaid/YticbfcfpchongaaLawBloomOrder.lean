/- Contracts typed by hand: BloomOrder holds of every input within the form's reach -/
import Derived.Test.YticbfcfpchongaaProg
import Derived.Below
import Derived.Deep.Draws
import Derived.Deep.AppendLies
import Derived.Maps.AppendAt
import Derived.OwnWalk
import Derived.Laws.BytesArg
import Derived.Laws.MakeOwn
import Derived.Laws.OwnMore
import Derived.Deep.OwnRows
import Derived.Tactics
import Derived.Lib.ConvBytes
import Derived.Laws.Slices
import Derived.WalkKit
import Derived.KernelRfl
import Derived.RowKit3
import Derived.Deep.LoopGhost
import Derived.Deep.QuietTactic
import Derived.BigQuiet
import Derived.WideLaws
import Derived.Deep.DeepCutAuto
import Derived.Deep.CutBlock
import Derived.Deep.RegionHeld3
import Derived.Laws.Rows
import Derived.Lib.AppendStr
import Derived.ArgAppend
import Derived.Laws.IdiomCopy
import Derived.OrdersHeld
import Derived.Laws.BitsLemmas
import Derived.RowKit
import Derived.Test.YticbfcfpchongaaWWords
import Derived.Test.YticbfcfpchongaaWLast
import Derived.Test.YticbfcfpchongaaWTab
import Derived.Test.YticbfcfpchongaaWFour
import Derived.Test.YticbfcfpchongaaWQPut
import Derived.Test.YticbfcfpchongaaWApart
import Derived.Test.YticbfcfpchongaaWArr
import Derived.Test.YticbfcfpchongaaWZeros
import Derived.Test.YticbfcfpchongaaWFoot
import Derived.Test.YticbfcfpchongaaWKept
import Derived.Test.YticbfcfpchongaaWShare
import Derived.Test.YticbfcfpchongaaWN
import Derived.Test.YticbfcfpchongaaWFootNe
import Derived.Test.YticbfcfpchongaaWAt
import Derived.Test.YticbfcfpchongaaWEqStruct
import Derived.Test.YticbfcfpchongaaWRepsOne
import Derived.Test.YticbfcfpchongaaWInv
import Derived.Test.YticbfcfpchongaaWInvWords
import Derived.Test.YticbfcfpchongaaWGuard
import Derived.Test.YticbfcfpchongaaWNEv
import Derived.Test.YticbfcfpchongaaWMore
import Derived.Test.YticbfcfpchongaaPureBloom2
import Derived.Test.YticbfcfpchongaaOpens
import Derived.Test.YticbfcfpchongaaGx21
import Derived.Test.YticbfcfpchongaaGx20
namespace Go.Proofs.Yticbfcfpchongaa.G
open Go.RowKit Go.Proofs.YticbfcfpchongaaW.PrintWords Go.Proofs.YticbfcfpchongaaW.PrintLast Go.Proofs.YticbfcfpchongaaW.PrintMore
attribute [local go_sem] max2_int min2_int max_two min_two max_three min_three max_four min_four
set_option linter.unusedVariables false
set_option linter.unusedSimpArgs false

/-! BloomOrder holds of every input within the form's reach -/
theorem wr (x : Int) (h0 : -9223372036854775808 ≤ x) (h1 : x ≤ 9223372036854775807) : wrap64 x = x := by unfold wrap64; omega
theorem tmod_rng (x n : Int) (hn : 0 < n) : -n < Int.tmod x n ∧ Int.tmod x n < n := by
  have h1 := Int.tmod_lt_of_pos x hn
  have h2 := Int.tmod_lt_of_pos (-x) hn
  rw [Int.neg_tmod] at h2
  omega
theorem among_all (x n : Int) (hn : 0 < n) (hn2 : n ≤ 1099511627776) : ∃ t, 0 ≤ t ∧ t < n ∧ morainelaw12_among.f x n = some t := by
  have hr := tmod_rng x n hn
  have e : wrap64 (Int.tmod x n + n) = Int.tmod x n + n := wr _ (by omega) (by omega)
  unfold morainelaw12_among.f
  rw [if_neg (by omega), e, Int.tmod_eq_emod_of_nonneg (by omega)]
  exact ⟨_, Int.emod_nonneg _ (by omega), Int.emod_lt_of_pos _ hn, rfl⟩
theorem rdOf_mem (l : List ByteArray) (i : Int) (h0 : 0 ≤ i) (h1 : i < l.length) : rdOf ByteArray.empty l i ∈ l := by
  unfold rdOf
  rw [List.getD_eq_getElem?_getD, List.getElem?_eq_getElem (show i.toNat < l.length by omega)]
  exact List.getElem_mem _
def oth (l : List ByteArray) (s j : Int) : ByteArray := rdOf ByteArray.empty l ((l.length : Int) - 1 - (j + s) % (l.length : Int))
theorem oth_mem (l : List ByteArray) (s j : Int) (hl : 0 < l.length) : oth l s j ∈ l := by
  have m0 : 0 ≤ (j + s) % (l.length : Int) := Int.emod_nonneg _ (by omega)
  have m1 : (j + s) % (l.length : Int) < l.length := Int.emod_lt_of_pos _ (by omega)
  exact rdOf_mem l _ (by omega) (by omega)
theorem mem_oth (l : List ByteArray) (s : Int) (x : ByteArray) (hx : x ∈ l) : ∃ j : Int, 0 ≤ j ∧ j < l.length ∧ x = oth l s j := by
  obtain ⟨m, hm, rfl⟩ := List.getElem_of_mem hx
  have hl : 0 < (l.length : Int) := by omega
  refine ⟨((l.length : Int) - 1 - m - s) % (l.length : Int), Int.emod_nonneg _ (by omega), Int.emod_lt_of_pos _ hl, ?_⟩
  unfold oth
  rw [Int.emod_add_emod, show (l.length : Int) - 1 - m - s + s = (l.length : Int) - 1 - m by omega, Int.emod_eq_of_lt (by omega) (by omega), show (l.length : Int) - 1 - ((l.length : Int) - 1 - m) = (m : Int) by omega]
  unfold rdOf
  rw [Int.toNat_natCast, List.getD_eq_getElem?_getD, List.getElem?_eq_getElem hm]
  rfl
theorem order_step (l acc : List ByteArray) (a s by_ : Int) (hs0 : 0 ≤ s) (hs1 : s < l.length) (hb : morainelaw12_among.f by_ (l.length : Int) = some s) (hl : l.length ≤ 1048576) (i k : Nat) (hi : i < l.length) (ha : acc.length ≤ 1048576) :
    morainelaw12_BloomOrder.l0 (k + 1) l a by_ acc (i : Int) = morainelaw12_BloomOrder.l0 k l a by_ (acc ++ [oth l s i]) ((i + 1 : Nat) : Int) := by
  have m0 : 0 ≤ ((i : Int) + s) % (l.length : Int) := Int.emod_nonneg _ (by omega)
  have m1 : ((i : Int) + s) % (l.length : Int) < l.length := Int.emod_lt_of_pos _ (by omega)
  have c0 : (i : Int) < (l.length : Int) := by omega
  have c1 : ¬ (l.length : Int) = 0 := by omega
  have c2 : acc.length < 8796093022208 := by omega
  have e3 : Int.tmod ((i : Int) + s) (l.length : Int) = ((i : Int) + s) % (l.length : Int) := Int.tmod_eq_emod_of_nonneg (by omega)
  have e1 : wrap64 ((i : Int) + s) = (i : Int) + s := wr _ (by omega) (by omega)
  have e2 : wrap64 ((l.length : Int) - 1) = (l.length : Int) - 1 := wr _ (by omega) (by omega)
  have e5 : wrap64 ((i : Int) + 1) = ((i + 1 : Nat) : Int) := (wr _ (by omega) (by omega)).trans (by omega)
  unfold oth
  rw [morainelaw12_BloomOrder.l0, if_pos c0, hb, Option.bind_some, if_neg c1, e1, e2, e3, e5]
  clear e1 e2 e3 e5 hb
  generalize ((i : Int) + s) % (l.length : Int) = z at *
  have c3 : 0 ≤ (l.length : Int) - 1 - z := by omega
  have c4 : (l.length : Int) - 1 - z < (l.length : Int) := by omega
  have e4 : wrap64 ((l.length : Int) - 1 - z) = (l.length : Int) - 1 - z := wr _ (by omega) (by omega)
  rw [e4, if_pos c3, if_pos c4, if_pos c2]
theorem order_loop (l : List ByteArray) (a s by_ : Int) (hs0 : 0 ≤ s) (hs1 : s < l.length) (hb : morainelaw12_among.f by_ (l.length : Int) = some s) (hl : l.length ≤ 1048576) : ∀ (d i : Nat) (acc : List ByteArray) (k : Nat), i + d = l.length → acc.length = i → (∀ x ∈ acc, x ∈ l) → (∀ j : Int, 0 ≤ j → j < i → oth l s j ∈ acc) →
    ∃ other : List ByteArray, other.length = l.length ∧ (∀ x, x ∈ other ↔ x ∈ l) ∧ morainelaw12_BloomOrder.l0 (k + d + 1) l a by_ acc (i : Int) = morainelaw12_BloomOrder.l0 (k + 1) l a by_ other (l.length : Int)
  | 0, i, acc, k, hi, ha, h1, h2 => by
    obtain rfl : i = l.length := by omega
    refine ⟨acc, ha, fun x => ⟨h1 x, fun hx => ?_⟩, rfl⟩
    obtain ⟨j, j0, j1, rfl⟩ := mem_oth l s x hx
    exact h2 j j0 j1
  | d + 1, i, acc, k, hi, ha, h1, h2 => by
    have hpos : 0 < l.length := by omega
    have hin : i < l.length := by omega
    have step := order_step l acc a s by_ hs0 hs1 hb hl i (k + d + 1) hin (by omega)
    have g1 : ∀ x ∈ acc ++ [oth l s i], x ∈ l := by
      intro x hx
      rcases List.mem_append.1 hx with hx | hx
      · exact h1 x hx
      · rw [List.mem_singleton.1 hx]; exact oth_mem l s i hpos
    have g2 : ∀ j : Int, 0 ≤ j → j < ((i + 1 : Nat) : Int) → oth l s j ∈ acc ++ [oth l s i] := by
      intro j j0 j1
      by_cases hj : j = i
      · subst hj; exact List.mem_append.2 (Or.inr (List.mem_singleton.2 rfl))
      · have : j < (i : Int) := by clear step g1 h1 h2; omega
        exact List.mem_append.2 (Or.inl (h2 j j0 this))
    obtain ⟨other, o1, o2, o3⟩ := order_loop l a s by_ hs0 hs1 hb hl d (i + 1) (acc ++ [oth l s i]) k (by clear step; omega) (by simp [ha]) g1 g2
    exact ⟨other, o1, o2, step.trans o3⟩
theorem sameset (l other : List ByteArray) (a : Int) (ha : 1 ≤ a ∧ a ≤ 64) (hl : l.length ≤ 1048576) (ho : other.length = l.length) (hm : ∀ x, x ∈ other ↔ x ∈ l) : filt l a = filt other a := by
  obtain ⟨B, hB, b0, b1, q1, q2, q3, q4⟩ := filt_all l a ha hl
  obtain ⟨B', hB', _, _, r1, r2, r3, r4⟩ := filt_all other a ha (by omega)
  have e : B' = B := by rw [ho, hB] at hB'; omega
  subst e
  refine filt_ext B' q1 r1 q2 r2 (by rw [q3, r3]) fun c c0 c1 => ?_
  rw [q4 c c0 c1, r4 c c0 c1]
  constructor
  · rintro ⟨x, hx, h⟩; exact ⟨x, (hm x).2 hx, h⟩
  · rintro ⟨x, hx, h⟩; exact ⟨x, (hm x).1 hx, h⟩
theorem small_of (l : List ByteArray) (hb : sumBulk (fun s : ByteArray => s.size + 1) l + 2 ≤ 1048576) (k : Nat) (hk : 1048584 ≤ k) : Small k l ∧ l.length ≤ 1048576 := by
  refine ⟨fun x hx => ?_, ?_⟩
  · have := sumBulk_mem (fun s : ByteArray => s.size + 1) hx
    have h2 : x.size + 1 ≤ sumBulk (fun s : ByteArray => s.size + 1) l := this
    omega
  · have := sumBulk_len (fun s : ByteArray => s.size + 1) (fun s => by omega) l
    omega
theorem BloomOrder_pure (l : List ByteArray) (bits_ by_ : Int) (hb : sumBulk (fun s : ByteArray => s.size + 1) l + 2 ≤ 1048576) : ∃ k, morainelaw12_BloomOrder.f k l bits_ by_ = some true := by
  obtain ⟨t, t0, t1, ht⟩ := among_all bits_ 64 (by omega) (by omega)
  have hlen := (small_of l hb 1048584 (Nat.le_refl _)).2
  have e : wrap64 (1 + t) = 1 + t := wr _ (by omega) (by omega)
  have hs : ∃ s : Int, 0 ≤ s ∧ (0 < l.length → s < l.length) ∧ (0 < l.length → morainelaw12_among.f by_ (l.length : Int) = some s) := by
    by_cases h : 0 < l.length
    · obtain ⟨s, s0, s1, hs⟩ := among_all by_ (l.length : Int) (by omega) (by omega)
      exact ⟨s, s0, fun _ => s1, fun _ => hs⟩
    · exact ⟨0, by omega, fun h' => absurd h' h, fun h' => absurd h' h⟩
  obtain ⟨s, s0, s1, hs⟩ := hs
  refine ⟨1048600 + l.length + 1, ?_⟩
  have hother : ∃ other : List ByteArray, other.length = l.length ∧ (∀ x, x ∈ other ↔ x ∈ l) ∧ morainelaw12_BloomOrder.l0 (1048600 + l.length + 1) l (1 + t) by_ [] 0 = morainelaw12_BloomOrder.l0 (1048600 + 1) l (1 + t) by_ other (l.length : Int) := by
    by_cases h : 0 < l.length
    · exact order_loop l (1 + t) s by_ s0 (s1 h) (hs h) hlen l.length 0 [] 1048600 (by omega) rfl (fun x hx => by cases hx) (fun j j0 j1 => by omega)
    · have : l = [] := List.length_eq_zero_iff.1 (by omega)
      subst this
      exact ⟨[], rfl, fun x => Iff.rfl, rfl⟩
  obtain ⟨other, o1, o2, o3⟩ := hother
  unfold morainelaw12_BloomOrder.f
  rw [works_good _ (by omega)]
  simp only [Option.bind_some]
  rw [if_pos trivial, ht]
  simp only [Option.bind_some]
  rw [e, o3, morainelaw12_BloomOrder.l0, if_neg (by omega)]
  have sm := (small_of l hb 1048600 (by omega)).1
  rw [make_good _ l (1 + t) (by omega) hlen sm, make_good _ other (1 + t) (by omega) (by omega) (fun x hx => sm x ((o2 x).1 hx)), ← sameset l other (1 + t) (by omega) hlen o1 o2]
  simp
theorem BloomOrder_upto (w : World) (A0 : Option Addr) (c0 : Nat) (l0 : List ByteArray) (hc0 : l0.length ≤ c0) (hr0 : Kd.C Kd.string w A0 l0.length l0) (hg0 : ∀ x ∈ l0, x.size ≤ maxLen) (a1 : Int) (hg1 : (Lit.int .i64 a1).wf = true) (a2 : Int) (hg2 : (Lit.int .i64 a2).wf = true) (hbulk : sumBulk (fun s : ByteArray => s.size + 1) l0 + 2 ≤ 1048576) :
    Calls Try.prog 7 #[.slice A0 l0.length c0, .int .i64 a1, .int .i64 a2] w fun e w' => e = .returned (.bool true) ∧ Below w.heap.size w w' := by
  obtain ⟨k, hk⟩ := BloomOrder_pure l0 a1 a2 hbulk
  exact morainelaw12_BloomOrder.calls k A0 c0 l0 a1 a2 true w hr0 hc0 hk

end Go.Proofs.Yticbfcfpchongaa.G
