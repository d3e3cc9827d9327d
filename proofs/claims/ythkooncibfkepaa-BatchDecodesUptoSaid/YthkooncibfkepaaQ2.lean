/- Contracts of functions and plain laws, several texts of the session put together by its program. -/
import Derived.Test.YthkooncibfkepaaProg
import Derived.Below
import Derived.Deep.Draws
import Derived.Deep.AppendLies
import Derived.Maps.AppendAt
import Derived.OwnWalk
import Derived.Laws.BytesArg
import Derived.Laws.MakeOwn
import Derived.Laws.OwnMore
import Derived.Deep.OwnRows
import Derived.Tactics
import Derived.Lib.ConvBytes
import Derived.Laws.Slices
import Derived.WalkKit
import Derived.KernelRfl
import Derived.RowKit3
import Derived.Deep.LoopGhost
import Derived.Deep.QuietTactic
import Derived.BigQuiet
import Derived.WideLaws
import Derived.Deep.DeepCutAuto
import Derived.Deep.CutBlock
import Derived.Deep.RegionHeld3
import Derived.Laws.Rows
import Derived.Lib.AppendStr
import Derived.ArgAppend
import Derived.Laws.IdiomCopy
import Derived.OrdersHeld
import Derived.Laws.BitsLemmas
import Derived.RowKit
import Derived.Test.YthkooncibfkepaaWWords
import Derived.Test.YthkooncibfkepaaWLast
import Derived.Test.YthkooncibfkepaaWTab
import Derived.Test.YthkooncibfkepaaWFour
import Derived.Test.YthkooncibfkepaaWQPut
import Derived.Test.YthkooncibfkepaaWApart
import Derived.Test.YthkooncibfkepaaWArr
import Derived.Test.YthkooncibfkepaaWZeros
import Derived.Test.YthkooncibfkepaaWFoot
import Derived.Test.YthkooncibfkepaaWKept
import Derived.Test.YthkooncibfkepaaWShare
import Derived.Test.YthkooncibfkepaaWN
import Derived.Test.YthkooncibfkepaaWFootNe
import Derived.Test.YthkooncibfkepaaWAt
import Derived.Test.YthkooncibfkepaaWEqStruct
import Derived.Test.YthkooncibfkepaaWRepsOne
import Derived.Test.YthkooncibfkepaaWInv
import Derived.Test.YthkooncibfkepaaWInvWords
import Derived.Test.YthkooncibfkepaaWGuard
import Derived.Test.YthkooncibfkepaaWNEv
import Derived.Test.YthkooncibfkepaaWMore
import Derived.Test.YthkooncibfkepaaQ1
import Derived.Test.YthkooncibfkepaaQ0
import Derived.Test.YthkooncibfkepaaRows
import Derived.Deep.Slices
import Derived.Deep.Fields
import Derived.ChangeSame
import Derived.Deep.Strs
import Derived.Lib.SmallJoins

/- Contracts typed by hand: plain laws of reading a batch: what is put is read, what is read was put -/
namespace Go.Proofs.Ythkooncibfkepaa.G
open Go.RowKit Go.Proofs.YthkooncibfkepaaW.PrintWords Go.Proofs.YthkooncibfkepaaW.PrintLast Go.Proofs.YthkooncibfkepaaW.PrintMore
attribute [local go_sem] max2_int min2_int max_two min_two max_three min_three max_four min_four
set_option linter.unusedVariables false
set_option linter.unusedSimpArgs false

/-! plain laws of reading a batch: what is put is read, what is read was put -/
theorem Text_put (a c : List Int) (s : ByteArray) (hl : (a ++ encText s ++ c).length ≤ 140737488355328) : codec_Text.f (a ++ encText s ++ c) a.length = some (s, (a.length : Int) + ((encText s).length : Int), 0) := by
  have hlen : (a ++ encText s ++ c).length = a.length + (encText s).length + c.length := by rw [List.length_append, List.length_append]
  have hel : (encText s).length = (enc (s.size : Int)).length + s.size := by unfold encText; rw [List.length_append, bytesOf_length]
  have e : a ++ encText s ++ c = a ++ enc (s.size : Int) ++ (bytesOf s ++ c) := by unfold encText; simp
  have hv := Varint_put a (bytesOf s ++ c) (s.size : Int) (by omega) (by omega) (by rw [← e]; exact hl)
  rw [← e] at hv
  unfold codec_Text.f
  rw [hv]
  simp only [Option.bind_some, if_true]
  rw [if_pos (by omega), if_pos (by omega), if_pos (by omega), if_pos (by omega), if_neg (by omega)]
  have t1 : ((a.length : Int) + ((enc (s.size : Int)).length : Int) + (s.size : Int)).toNat = (a ++ encText s).length := by rw [List.length_append, hel]; omega
  have t2 : ((a.length : Int) + ((enc (s.size : Int)).length : Int)).toNat = (a ++ enc (s.size : Int)).length := by rw [List.length_append]; omega
  have t3 : a ++ encText s = (a ++ enc (s.size : Int)) ++ bytesOf s := by unfold encText; simp
  rw [t1, t2, List.take_left, t3, List.drop_left, strOfNums_bytesOf]
  congr 2
  rw [hel]
  congr 1
  omega
theorem bytesOf_nums (l : List Int) (hb : Bytes l) : bytesOf (strOfNums l) = l := by
  unfold bytesOf strOfNums
  simp only [List.map_map]
  conv => rhs; rw [← List.map_id l]
  apply List.map_congr_left
  intro x hx
  have := hb x hx
  simp
  omega
theorem nums_size (l : List Int) : (strOfNums l).size = l.length := by
  rw [← bytesOf_length]
  unfold bytesOf
  rw [List.length_map, strOfNums_data, List.length_map]
theorem Varint_at (l : List Int) (p w n : Int) (hb : Bytes l) (h : codec_Varint.f l p = some (w, n, 0)) : ∃ a c, l = a ++ enc w ++ c ∧ (a.length : Int) = p ∧ n = p + (enc w).length := by
  unfold codec_Varint.f at h
  by_cases h0 : p < 0
  · rw [if_pos h0] at h; simp at h
  · rw [if_neg h0] at h
    by_cases h1 : p > (l.length : Int)
    · rw [if_pos h1] at h; simp at h
    · rw [if_neg h1] at h
      by_cases hl : (l.length : Int) ≤ 281474976710656
      · rw [if_pos hl] at h
        simp only [Option.some.injEq] at h
        obtain ⟨u, _, _, hw, hn, ht, hx⟩ := go_was p (l.drop p.toNat) 0 0 w n (by omega) fits0 (hb.drop _) h
        rw [up_zero] at hw
        subst hw
        refine ⟨l.take p.toNat, (l.drop p.toNat).drop (enc w).length, ?_, ?_, ?_⟩
        · have e1 : enc w = (l.drop p.toNat).take (enc w).length := ht.symm
          conv => lhs; rw [← List.take_append_drop p.toNat l, ← List.take_append_drop (enc w).length (l.drop p.toNat), ← e1]
          rw [List.append_assoc]
        · rw [List.length_take]; omega
        · simp only [Nat.sub_zero] at hn
          unfold enc
          omega
      · rw [if_neg hl] at h; cases h
theorem Text_at (l : List Int) (p : Int) (s : ByteArray) (n : Int) (hb : Bytes l) (hl : l.length ≤ 1099511627776) (h : txt l p = (s, n, 0)) : ∃ a c, l = a ++ encText s ++ c ∧ (a.length : Int) = p ∧ n = p + (encText s).length := by
  have ht := (txt_eq l p hb hl).1
  rw [h] at ht
  obtain ⟨v, m, e, hv, hh⟩ := varint_some l p hb (by omega)
  unfold codec_Text.f at ht
  rw [hv, Option.bind_some] at ht
  rcases hh with ⟨rfl, v0, v1, p0, n0, n1⟩ | ⟨he, e0, e1, rfl, rfl⟩
  · obtain ⟨a, c, e1, e2, e3⟩ := Varint_at l p v m hb hv
    simp only [if_true] at ht
    rw [if_pos v0, if_pos (by omega), if_pos n1, if_pos (by omega)] at ht
    by_cases h2 : v > (l.length : Int) - m
    · rw [if_pos h2] at ht; simp at ht
    · rw [if_neg h2] at ht
      simp only [Option.some.injEq, Prod.mk.injEq, and_true] at ht
      have hlen : l.length = a.length + (enc v).length + c.length := by rw [e1, List.length_append, List.length_append]
      have hs : s = strOfNums (c.take v.toNat) := by
        rw [← ht.1]
        congr 1
        have q1 : (m + v).toNat = (a ++ enc v).length + v.toNat := by rw [List.length_append]; omega
        have q2 : m.toNat = (a ++ enc v).length := by rw [List.length_append]; omega
        rw [q1, q2, e1, List.take_length_add_append, List.drop_left]
      have hbc : Bytes c := fun x hx => hb x (by rw [e1]; exact List.mem_append_right _ hx)
      have hz : s.size = v.toNat := by rw [hs, nums_size, List.length_take]; omega
      have hv2 : ((s.size : Nat) : Int) = v := by omega
      have hbs : bytesOf s = c.take v.toNat := by rw [hs, bytesOf_nums _ (hbc.take _)]
      refine ⟨a, c.drop v.toNat, ?_, e2, ?_⟩
      · unfold encText
        rw [hv2, hbs, List.append_assoc, List.append_assoc, List.take_append_drop, ← List.append_assoc]
        exact e1
      · rw [← ht.2, e3]
        unfold encText
        rw [List.length_append, bytesOf_length, hv2]
        push_cast
        omega
  · simp only [] at ht
    rw [if_neg he] at ht
    simp only [Option.some.injEq, Prod.mk.injEq] at ht
    exact absurd ht.2.2 he
theorem byte_at (l a1 r : List Int) (p : Int) (e : l = a1 ++ r) (h : (a1.length : Int) = p + 1) (h0 : 0 ≤ p) : ∃ a, a1 = a ++ [rd l p] ∧ (a.length : Int) = p := by
  have hne : a1 ≠ [] := by intro h'; rw [h'] at h; simp at h; omega
  refine ⟨a1.dropLast, ?_, by rw [List.length_dropLast]; omega⟩
  have hp : p = ((a1.length - 1 : Nat) : Int) := by omega
  have hlt : a1.length - 1 < l.length := by rw [e, List.length_append]; omega
  rw [hp, rd_get l _ hlt]
  subst e
  rw [List.getElem_append_left (by omega)]
  conv => lhs; rw [← List.dropLast_concat_getLast hne]
  rw [List.getLast_eq_getElem]
theorem rdR_at (l : List Int) (p : Int) (hb : Bytes l) (hl : l.length ≤ 1099511627776) (h0 : 0 ≤ p) (h : (rdR l p).2.2 = true) : ∃ a c, l = a ++ encOp (rdR l p).1 ++ c ∧ (a.length : Int) = p ∧ (rdR l p).2.1 = p + (encOp (rdR l p).1).length ∧ mayB (rdR l p).1 = true := by
  have hbyte := fun hlt => rd_byte hb p h0 hlt
  by_cases c1 : p ≥ (l.length : Int)
  · unfold rdR at h; rw [if_pos c1] at h; cases h
  · by_cases c2 : (txt l (p + 1)).2.2 ≠ 0
    · unfold rdR at h; rw [if_neg c1, if_pos c2] at h; cases h
    · have c2' : (txt l (p + 1)).2.2 = 0 := by omega
      obtain ⟨s1, n1, z1, ht1⟩ : ∃ s n z, txt l (p + 1) = (s, n, z) := ⟨_, _, _, rfl⟩
      rw [ht1] at c2'
      obtain rfl : z1 = 0 := c2'
      obtain ⟨a1, r1, e1, l1, k1⟩ := Text_at l (p + 1) s1 n1 hb hl ht1
      obtain ⟨a, ea, la⟩ := byte_at l a1 (encText s1 ++ r1) p (by rw [e1, List.append_assoc]) l1 h0
      have hb0 := hbyte (by omega)
      by_cases c3 : rd l p = 0
      · have er : rdR l p = (⟨0, s1, ⟨#[]⟩⟩, n1, mayB ⟨0, s1, ⟨#[]⟩⟩) := by unfold rdR; rw [if_neg c1, if_neg c2, if_pos c3, ht1]
        rw [er] at h ⊢
        refine ⟨a, r1, ?_, la, ?_, h⟩
        · simp only [encOp]
          rw [if_pos trivial]
          rw [c3] at ea
          rw [e1, ea]
          simp
        · simp only [encOp]
          rw [if_pos trivial, List.length_cons, k1]
          push_cast
          omega
      · by_cases c4 : (txt l n1).2.2 ≠ 0
        · unfold rdR at h; rw [if_neg c1, if_neg c2, if_neg c3, ht1] at h; simp only [] at h; rw [if_pos c4] at h; cases h
        · have c4' : (txt l n1).2.2 = 0 := by omega
          obtain ⟨s2, n2, z2, ht2⟩ : ∃ s n z, txt l n1 = (s, n, z) := ⟨_, _, _, rfl⟩
          rw [ht2] at c4'
          obtain rfl : z2 = 0 := c4'
          obtain ⟨a2, r2, e2, l2, k2⟩ := Text_at l n1 s2 n2 hb hl ht2
          have er : rdR l p = (⟨rd l p, s1, s2⟩, n2, mayB ⟨rd l p, s1, s2⟩) := by unfold rdR; rw [if_neg c1, if_neg c2, if_neg c3, ht1]; simp only []; rw [if_neg c4, ht2]
          rw [er] at h ⊢
          have hpre : a1 ++ encText s1 = a2 := by
            have e3 : (a1 ++ encText s1) ++ r1 = a2 ++ (encText s2 ++ r2) := by rw [← e1, e2, List.append_assoc]
            exact (List.append_inj e3 (by rw [List.length_append]; omega)).1
          refine ⟨a, r2, ?_, la, ?_, h⟩
          · simp only [encOp]
            rw [if_neg c3, show rd l p % 256 = rd l p by omega]
            conv => lhs; rw [e2, ← hpre, ea]
            simp
          · simp only [encOp]
            rw [if_neg c3, List.length_append, List.length_cons, k2, k1]
            push_cast
            omega
theorem ba_len (s : ByteArray) : s.toList.length = s.size := by
  rw [Lib.toList_data, Array.length_toList]
  rfl
theorem may_kind (x : Op04) (h : mayB x = true) : 0 ≤ x.f0 ∧ x.f0 ≤ 2 ∧ (x.f0 = 0 → x.f2 = ⟨#[]⟩) := by
  unfold mayB at h
  split at h
  · cases h
  · split at h
    · cases h
    · split at h
      · rename_i h3
        refine ⟨by omega, by omega, fun _ => ?_⟩
        have : x.f2.toList = [] := by simpa using h
        have h4 : x.f2.size = 0 := by
          have e := ba_len x.f2
          rw [this] at e
          exact e.symm
        cases hx : x.f2 with
        | mk d =>
          rw [hx] at h4
          have : d = #[] := by simpa [ByteArray.size] using h4
          rw [this]
      · split at h
        · exact ⟨by omega, by omega, fun h' => by omega⟩
        · split at h
          · exact ⟨by omega, by omega, fun h' => by omega⟩
          · cases h
theorem txt_put (a c : List Int) (s : ByteArray) (l : List Int) (p : Int) (e : l = a ++ encText s ++ c) (hp : p = (a.length : Int)) (hl : l.length ≤ 1099511627776) : txt l p = (s, p + ((encText s).length : Int), 0) := by
  subst e hp
  unfold txt
  rw [Text_put a c s (by omega)]
  rfl
theorem rdR_put (x : Op04) (hm : mayB x = true) (a c l : List Int) (e : l = a ++ encOp x ++ c) (hl : l.length ≤ 1099511627776) : rdR l a.length = (x, (a.length : Int) + ((encOp x).length : Int), true) := by
  have hk := may_kind x hm
  have hlen : l.length = a.length + (encOp x).length + c.length := by rw [e, List.length_append, List.length_append]
  by_cases h0 : x.f0 = 0
  · have eo : encOp x = 0 :: encText x.f1 := by unfold encOp; rw [if_pos h0, h0]; rfl
    have e1 : l = (a ++ [0]) ++ encText x.f1 ++ c := by rw [e, eo]; simp
    have ht := txt_put (a ++ [0]) c x.f1 l ((a.length : Int) + 1) e1 (by simp) hl
    have hr : rd l (a.length : Int) = 0 := by rw [rd_get l a.length (by rw [hlen, eo, List.length_cons]; omega)]; simp [e1]
    have hx : (⟨0, x.f1, ⟨#[]⟩⟩ : Op04) = x := by
      have h2 := hk.2.2 h0
      cases x
      simp_all
    unfold rdR
    rw [if_neg (by rw [hlen, eo, List.length_cons]; omega), ht, if_neg (by simp), if_pos hr]
    simp only []
    rw [hx, hm, eo, List.length_cons]
    congr 2
    push_cast
    omega
  · have eo : encOp x = x.f0 :: (encText x.f1 ++ encText x.f2) := by unfold encOp; rw [if_neg h0, show x.f0 % 256 = x.f0 by omega]; rfl
    have e1 : l = (a ++ [x.f0]) ++ encText x.f1 ++ (encText x.f2 ++ c) := by rw [e, eo]; simp
    have e2 : l = (a ++ [x.f0] ++ encText x.f1) ++ encText x.f2 ++ c := by rw [e, eo]; simp
    have ht := txt_put (a ++ [x.f0]) _ x.f1 l ((a.length : Int) + 1) e1 (by simp) hl
    have ht2 := txt_put (a ++ [x.f0] ++ encText x.f1) _ x.f2 l ((a.length : Int) + 1 + ((encText x.f1).length : Int)) e2 (by simp only [List.length_append, List.length_cons, List.length_nil]; omega) hl
    have hr : rd l (a.length : Int) = x.f0 := by rw [rd_get l a.length (by rw [hlen, eo, List.length_cons]; omega)]; simp [e1]
    unfold rdR
    rw [if_neg (by rw [hlen, eo, List.length_cons]; omega), ht, if_neg (by simp), if_neg (by rw [hr]; exact h0)]
    simp only []
    rw [ht2, if_neg (by simp), hr]
    simp only []
    rw [show (⟨x.f0, x.f1, x.f2⟩ : Op04) = x from rfl, hm, eo, List.length_cons, List.length_append]
    congr 2
    push_cast
    omega
/-- the place behind the last of some -/
def endAt (p : Int) (gs : List Gone) : Int := match gs.getLast? with | some g => g.2.2 | none => p
theorem endAt_cons (p : Int) (g : Gone) (gs : List Gone) : endAt p (g :: gs) = endAt g.2.2 gs := by
  unfold endAt
  cases gs with
  | nil => rfl
  | cons h t =>
    rw [List.getLast?_cons_cons]
    have : (h :: t).getLast? ≠ none := by simp
    cases e : (h :: t).getLast? with
    | none => exact absurd e this
    | some y => rfl
theorem lastEnd_eq (gs : List Gone) : lastEnd gs = endAt 12 gs := rfl
theorem gos_at (l : List Int) (seq : Int) (hb : Bytes l) (hl : l.length ≤ 1099511627776) : ∀ (d i : Nat) (p : Int), 0 ≤ p → p ≤ l.length →
    ∃ a c, l = a ++ encOps (opsOf04 (gos l seq d i p)) ++ c ∧ (a.length : Int) = p ∧ endAt p (gos l seq d i p) = p + (encOps (opsOf04 (gos l seq d i p))).length ∧ ∀ x ∈ opsOf04 (gos l seq d i p), mayB x = true
  | 0, i, p, h0, hp => by
    refine ⟨l.take p.toNat, l.drop p.toNat, ?_, by rw [List.length_take]; omega, ?_, ?_⟩
    · simp [gos, opsOf04, encOps]
    · simp [gos, opsOf04, encOps, endAt]
    · intro x hx; simp [gos, opsOf04] at hx
  | d + 1, i, p, h0, hp => by
    unfold gos
    by_cases hr : (rdR l p).2.2 = true
    · rw [if_pos hr]
      have hn := rdR_next l hb hl p hr
      obtain ⟨a, c, e, la, ka, hm⟩ := rdR_at l p hb hl h0 hr
      obtain ⟨a2, c2, e2, la2, ka2, hm2⟩ := gos_at l seq hb hl d (i + 1) (rdR l p).2.1 hn.1 hn.2.2
      have ec : opsOf04 ((IntKind.u64.wrap (seq + (i : Int)), (rdR l p).1, (rdR l p).2.1) :: gos l seq d (i + 1) (rdR l p).2.1) = (rdR l p).1 :: opsOf04 (gos l seq d (i + 1) (rdR l p).2.1) := rfl
      rw [ec, endAt_cons]
      simp only [encOps]
      have hpre : a ++ encOp (rdR l p).1 = a2 := by
        have e3 : (a ++ encOp (rdR l p).1) ++ c = a2 ++ (encOps (opsOf04 (gos l seq d (i + 1) (rdR l p).2.1)) ++ c2) := by rw [← e, ← List.append_assoc]; exact e2
        exact (List.append_inj e3 (by rw [List.length_append]; omega)).1
      refine ⟨a, c2, ?_, la, ?_, ?_⟩
      · conv => lhs; rw [e2, ← hpre]
        simp
      · rw [ka2, ka, List.length_append]
        push_cast
        omega
      · intro x hx
        rcases List.mem_cons.1 hx with rfl | hx
        · exact hm
        · exact hm2 x hx
    · rw [if_neg hr]
      refine ⟨l.take p.toNat, l.drop p.toNat, ?_, by rw [List.length_take]; omega, ?_, ?_⟩
      · simp [opsOf04, encOps]
      · simp [opsOf04, encOps, endAt]
      · intro x hx; simp [opsOf04] at hx
theorem gos_put (l : List Int) (seq : Int) (hl : l.length ≤ 1099511627776) : ∀ (ops : List Op04) (i : Nat) (p : Int) (a c : List Int), l = a ++ encOps ops ++ c → p = (a.length : Int) → (∀ x ∈ ops, mayB x = true) →
    opsOf04 (gos l seq ops.length i p) = ops ∧ endAt p (gos l seq ops.length i p) = p + ((encOps ops).length : Int)
  | [], i, p, a, c, e, hp, hm => ⟨rfl, by simp [gos, endAt, encOps]⟩
  | x :: r, i, p, a, c, e, hp, hm => by
    have hr := rdR_put x (hm x List.mem_cons_self) a (encOps r ++ c) l (by rw [e]; simp [encOps]) hl
    have ih := gos_put l seq hl r (i + 1) (p + ((encOp x).length : Int)) (a ++ encOp x) c (by rw [e]; simp [encOps]) (by rw [List.length_append, hp]; push_cast; rfl) (fun y hy => hm y (List.mem_cons_of_mem _ hy))
    rw [← hp] at hr
    rw [List.length_cons]
    unfold gos
    rw [hr]
    simp only [if_true]
    rw [endAt_cons]
    refine ⟨?_, ?_⟩
    · show x :: opsOf04 (gos l seq r.length (i + 1) (p + ((encOp x).length : Int))) = x :: r
      rw [ih.1]
    · simp only []
      rw [ih.2]
      simp only [encOps]
      rw [List.length_append]
      push_cast
      omega
theorem badN_all : ∀ (l : List Op04) (i : Nat), (∀ x ∈ l, mayB x = true) → badN l i = none
  | [], _, _ => rfl
  | x :: r, i, h => by
    unfold badN
    rw [if_pos (h x List.mem_cons_self)]
    exact badN_all r (i + 1) (fun y hy => h y (List.mem_cons_of_mem _ hy))
theorem badN_none : ∀ (l : List Op04) (i : Nat), badN l i = none → ∀ x ∈ l, mayB x = true
  | [], _, _, x, hx => by cases hx
  | y :: r, i, h, x, hx => by
    unfold badN at h
    by_cases hy : mayB y = true
    · rw [if_pos hy] at h
      rcases List.mem_cons.1 hx with rfl | hx
      · exact hy
      · exact badN_none r (i + 1) h x hx
    · rw [if_neg hy] at h; cases h
theorem chk_ok {l : List Op04} (h : (chk l).2 = 0) : chk l = (0, 0) ∧ l.length ≤ 4096 ∧ (∀ x ∈ l, mayB x = true) ∧ 12 + totN l ≤ 1048576 := by
  unfold chk at h ⊢
  by_cases h1 : (l.length : Int) > 4096
  · rw [if_pos h1] at h; cases h
  · rw [if_neg h1] at h ⊢
    cases hb : badN l 0 with
    | some i => rw [hb] at h; simp at h
    | none =>
      rw [hb] at h
      simp only [] at h ⊢
      by_cases h2 : 12 + totN l > 1048576
      · rw [if_pos h2] at h; simp at h
      · rw [if_neg h2]
        exact ⟨rfl, by omega, badN_none l 0 hb, by omega⟩
theorem chk_of {l : List Op04} (h1 : l.length ≤ 4096) (hm : ∀ x ∈ l, mayB x = true) (h2 : 12 + totN l ≤ 1048576) : chk l = (0, 0) := by
  unfold chk
  rw [if_neg (by omega), badN_all l 0 hm]
  simp only []
  rw [if_neg (by omega)]
theorem fixF_le : ∀ (l : List Int), Bytes l → fixF l.length (le l) = l
  | [], _ => rfl
  | x :: r, h => by
    have hx := h x List.mem_cons_self
    have ih := fixF_le r (fun y hy => h y (List.mem_cons_of_mem _ hy))
    simp only [List.length_cons, fixF, le]
    rw [show (x + 256 * le r) % 256 = x by omega, show (x + 256 * le r) / 256 = le r by omega, ih]
theorem encR_ok {seq : Int} {l : List Op04} (h : (encR seq l).2 = 0) : (chk l).2 = 0 ∧ fitB seq l.length = true ∧ encR seq l = (encB seq l, 0) := by
  unfold encR at h ⊢
  by_cases h1 : (chk l).2 = 0
  · rw [if_pos h1] at h ⊢
    by_cases h2 : fitB seq l.length = true
    · rw [if_pos h2]; exact ⟨h1, h2, rfl⟩
    · rw [if_neg h2] at h; cases h
  · rw [if_neg h1] at h; exact absurd h h1
theorem decB_put (seq : Int) (l : List Op04) (h0 : 0 ≤ seq) (h1 : seq < 18446744073709551616) (h : (encR seq l).2 = 0) : decB (encB seq l) = (seq, l, 0) := by
  obtain ⟨hc, hf, _⟩ := encR_ok h
  obtain ⟨_, hn, hm, ht⟩ := chk_ok hc
  have hlen := encB_len seq l
  have hs8 : seg (encB seq l) 0 8 = fixF 8 seq := by
    have := seg_mid [] (fixF 8 seq) (fixF 4 (l.length : Int) ++ encOps l)
    rw [fixF_len] at this
    simpa [encB] using this
  have hs4 : seg (encB seq l) 8 4 = fixF 4 (l.length : Int) := by
    have := seg_mid (fixF 8 seq) (fixF 4 (l.length : Int)) (encOps l)
    rw [fixF_len, fixF_len] at this
    exact this
  have q8 : le (seg (encB seq l) 0 8) = seq := by rw [hs8, le_fixF 8 seq h0, show (256 : Int) ^ 8 = 18446744073709551616 by decide]; omega
  have q4 : le (seg (encB seq l) 8 4) = (l.length : Int) := by rw [hs4, le_fixF 4 _ (by omega), show (256 : Int) ^ 4 = 4294967296 by decide]; omega
  have hg := gos_put (encB seq l) seq (by omega) l 0 12 (fixF 8 seq ++ fixF 4 (l.length : Int)) [] (by simp [encB]) (by rw [List.length_append, fixF_len, fixF_len]; rfl) hm
  have hG : goneL (encB seq l) = gos (encB seq l) seq l.length 0 12 := by
    unfold goneL
    rw [if_neg (by omega), q8, q4]
    rfl
  unfold decB
  rw [if_neg (by omega), q8, q4, hG, lastEnd_eq, hg.1, hg.2, ← opsOf_len, hg.1]
  rw [if_pos ⟨hc, rfl, by rw [hlen, encOps_len]; push_cast; omega, hf⟩]
theorem decB_at (b : List Int) (hb : Bytes b) (hl : b.length ≤ 1048576) (h : (decB b).2.2 = 0) : (∀ x ∈ (decB b).2.1, mayB x = true) ∧ encR (decB b).1 (decB b).2.1 = (b, 0) := by
  unfold decB at h ⊢
  by_cases h12 : b.length < 12
  · rw [if_pos h12] at h; cases h
  · rw [if_neg h12] at h ⊢
    split at h
    · rename_i hc
      rw [if_pos hc]
      obtain ⟨c1, c2, c3, c4⟩ := hc
      have hG : goneL b = gos b (le (seg b 0 8)) (le (seg b 8 4)).toNat 0 12 := by unfold goneL; rw [if_neg h12]
      obtain ⟨a, c, e, la, ka, hm⟩ := gos_at b (le (seg b 0 8)) hb (by omega) (le (seg b 8 4)).toNat 0 12 (by omega) (by omega)
      rw [← hG] at e ka hm
      rw [lastEnd_eq, ka] at c3
      have hlen : b.length = a.length + (encOps (opsOf04 (goneL b))).length + c.length := by
        conv => lhs; rw [e]
        rw [List.length_append, List.length_append]
      have hc0 : c = [] := List.eq_nil_of_length_eq_zero (by omega)
      refine ⟨hm, ?_⟩
      simp only []
      unfold encR
      rw [if_pos c1, if_pos (by rw [opsOf_len, show (goneL b).length = (le (seg b 8 4)).toNat by omega]; exact c4)]
      congr 1
      unfold encB
      have f8 : fixF 8 (le (seg b 0 8)) = seg b 0 8 := by
        have := fixF_le (seg b 0 8) (seg_bytes hb _ _)
        rwa [seg_len b 0 8 (by omega)] at this
      have f4 : fixF 4 (le (seg b 8 4)) = seg b 8 4 := by
        have := fixF_le (seg b 8 4) (seg_bytes hb _ _)
        rwa [seg_len b 8 4 (by omega)] at this
      rw [opsOf_len, c2, f8, f4]
      have ha : a = b.take 12 := by
        conv => rhs; rw [e, hc0]
        rw [List.append_nil, List.take_left' (by omega)]
      have hab : seg b 0 8 ++ seg b 8 4 = b.take 12 := by
        unfold seg
        rw [List.drop_zero, ← List.take_add]
      rw [hab, ← ha]
      conv => rhs; rw [e, hc0]
      rw [List.append_nil]
    · cases h
theorem decB_bad (b : List Int) (h : (decB b).2.2 ≠ 0) : decB b = (0, [], 41) := by
  unfold decB at h ⊢
  by_cases h12 : b.length < 12
  · rw [if_pos h12]
  · rw [if_neg h12] at h ⊢
    split at h
    · exact absurd rfl h
    · rename_i hc
      rw [if_neg hc]

end Go.Proofs.Ythkooncibfkepaa.G

/- Printed by the session's program over the kit's print, out of the translation: functions as plain Lean functions, and the proofs that the calls come to them. -/
namespace Go.Proofs.Ythkooncibfkepaa.G
open Go.RowKit Go.Proofs.YthkooncibfkepaaW.PrintWords Go.Proofs.YthkooncibfkepaaW.PrintLast Go.Proofs.YthkooncibfkepaaW.PrintMore
attribute [local go_sem] max2_int min2_int max_two min_two max_three min_three max_four min_four   -- for this text's walks alone
set_option linter.unusedVariables false
set_option linter.unusedSimpArgs false

theorem eqA65 (d : Nat) (w : World) (x0 y0 : Int) (x1 y1 : ByteArray) (x2 y2 : ByteArray) :
    (Op.equalIn (d + 2) 65 (.agg #[.int .i64 x0, .string x1, .string x2]) (.agg #[.int .i64 y0, .string y1, .string y2])).run Try.prog w = .ok (x0 == y0 && (x1.toList == y1.toList && (x2.toList == y2.toList))) w := by
  refine eqA_of Try.underlying65 (by kernel_rfl) ?_
  refine eqf_cons (by rfl) (by go_simp; rfl) (by go_simp; rfl) (by go_simp) ?_
  refine eqf_cons (by rfl) (by go_simp; rfl) (by go_simp; rfl) (by go_simp) ?_
  exact eqf_last (by rfl) (by go_simp; rfl) (by go_simp; rfl) (by go_simp)
end Go.Proofs.Ythkooncibfkepaa.G

/- Printed by the session's program over the kit's print, out of the translation: functions as plain Lean functions, and the proofs that the calls come to them. -/
namespace Go.Proofs.Ythkooncibfkepaa.G
open Go.RowKit Go.Proofs.YthkooncibfkepaaW.PrintWords Go.Proofs.YthkooncibfkepaaW.PrintLast Go.Proofs.YthkooncibfkepaaW.PrintMore
attribute [local go_sem] max2_int min2_int max_two min_two max_three min_three max_four min_four   -- for this text's walks alone
set_option linter.unusedVariables false
set_option linter.unusedSimpArgs false

attribute [local go_sem high] eqA65
/-! ### morainelaw04_same: function 37 -/
def morainelaw04_same.l0 : Nat → List (S65) → List (S65) → Int → Option (Bool)
  | 0, _, _, _ => none
  | k + 1, x0, x1, x5 => if x5 < (x0.length : Int) then (if 0 ≤ x5 then (if x5 < (x1.length : Int) then (if (!(((rd_T65 x0 x5).f0) == ((rd_T65 x1 x5).f0)) || (!((((rd_T65 x0 x5).f1).toList) == (((rd_T65 x1 x5).f1).toList)) || (!((((rd_T65 x0 x5).f2).toList) == (((rd_T65 x1 x5).f2).toList))))) = true then (some false) else (morainelaw04_same.l0 k x0 x1 (wrap64 (x5 + 1)))) else (none)) else (none)) else (some true)
def morainelaw04_same.f (k : Nat) (l0 : List (S65)) (l1 : List (S65)) : Option (Bool) := if (l0.length : Int) = (l1.length : Int) then (morainelaw04_same.l0 k l0 l1 0) else (some false)
theorem morainelaw04_same.mono_l : ∀ k, (∀ y0 y1 y2, LeO (morainelaw04_same.l0 k y0 y1 y2) (morainelaw04_same.l0 (k + 1) y0 y1 y2))
  | 0 => fun _ _ _ r h => by simp [morainelaw04_same.l0] at h
  | k + 1 => by
    have ih0 := morainelaw04_same.mono_l k
    · intro y0 y1 y2
      unfold morainelaw04_same.l0
      repeat' first
      | (with_reducible exact ih0 _ _ _)
      | (with_reducible exact LeO.refl _)
      | (with_reducible exact LeO.none _)
      | (with_reducible refine LeO.ite ?_ ?_)
      | (with_reducible refine LeO.bind ?_ (fun _ => ?_))
      | exact ih0 _ _ _
      | exact LeO.none _
      | refine LeO.ite ?_ ?_
      | refine LeO.bind ?_ (fun _ => ?_)
theorem morainelaw04_same.mono : ∀ a0 a1 k, LeO (morainelaw04_same.f k a0 a1) (morainelaw04_same.f (k + 1) a0 a1) := by
  intro a0 a1 k
  have ih0 := morainelaw04_same.mono_l k
  unfold morainelaw04_same.f
  repeat' first
      | (with_reducible exact ih0 _ _ _)
      | (with_reducible exact LeO.refl _)
      | (with_reducible exact LeO.none _)
      | (with_reducible refine LeO.ite ?_ ?_)
      | (with_reducible refine LeO.bind ?_ (fun _ => ?_))
      | exact ih0 _ _ _
      | exact LeO.none _
      | refine LeO.ite ?_ ?_
      | refine LeO.bind ?_ (fun _ => ?_)
set_option maxHeartbeats 8000000 in
set_option maxRecDepth 100000 in
theorem morainelaw04_same.calls (k : Nat) (A0 : Option Addr) (c0 : Nat) (l0 : List (S65)) (A1 : Option Addr) (c1 : Nat) (l1 : List (S65)) (r : Bool) (w : World) (hr0 : Kd.C k65 w A0 l0.length l0) (hc0 : l0.length ≤ c0) (hr1 : Kd.C k65 w A1 l1.length l1) (hc1 : l1.length ≤ c1) (h : morainelaw04_same.f k l0 l1 = some r) :
    Calls Try.prog 37 #[.slice A0 l0.length c0, .slice A1 l1.length c1] w fun e w' => e = .returned (.bool r) ∧ Drawn0 w w' := by
  have hu65 := Try.underlying65
  have HR0 := Aside0.mk hr0
  have HC0 := Aside0.mk hc0
  clear hr0 hc0
  have HR1 := Aside0.mk hr1
  have HC1 := Aside0.mk hc1
  clear hr1 hc1
  have H : (if (l0.length : Int) = (l1.length : Int) then (morainelaw04_same.l0 k l0 l1 0) else (some false)) = some r := h
  clear h
  by_cases c3 : (l0.length : Int) = (l1.length : Int)
  · rw [if_pos c3] at H
    have c3b0 : ((l0.length : Int) == (l1.length : Int)) = true := beq_iff_eq.mpr c3
    have c3b1 : ((l0.length : Int) != (l1.length : Int)) = false := bne_eq_false_iff_eq.mpr c3
    have c3b2 : (l0.length == l1.length) = true := by first | simpa using c3 | (simp at c3 ⊢; omega)
    clear c3
    have H' := Aside0.mk H
    clear H
    go_enter Try.func37, Try.ntmps37
    go_wp2
    repeat (go_quiet (fail); try go_wp2)
    go_loopg [5] k (fun kq v5 w' => ∃ (x5_1 : Int), v5 = .int .i64 x5_1 ∧ Aside0 (morainelaw04_same.l0 kq l0 l1 x5_1 = some r) ∧ Aside0 (kq ≤ k) ∧ Drawn0 w w')
    case atStart => exact ⟨(0), (by first | rfl | (simp; done) | (simp [*]; done)), H', ⟨Nat.le_refl _⟩, by repeat (first | exact Drawn0.refl _ | apply Drawn0.step)⟩
    case round =>
      clear H'
      try clear c1
      try clear p2
      try clear c3
      try clear c3b0
      try clear c3b1
      try clear c3b2
      obtain ⟨x5_1, rfl, HA, HK1, ⟨m1, rfl⟩⟩ := hrel
      cases gk with
      | zero => exact absurd HA.out (by simp [morainelaw04_same.l0])
      | succ k1 =>
        have H := HA.out
        clear HA
        simp only [morainelaw04_same.l0] at H
        by_cases c4 : x5_1 < (l0.length : Int)
        · rw [if_pos c4] at H
          have c4b0 : decide (x5_1 < (l0.length : Int)) = true := decide_eq_true c4
          clear c4
          by_cases c5 : 0 ≤ x5_1
          · rw [if_pos c5] at H
            have c5b0 : decide (0 ≤ x5_1) = true := decide_eq_true c5
            clear c5
            by_cases c6 : x5_1 < (l1.length : Int)
            · rw [if_pos c6] at H
              have c6b0 : decide (x5_1 < (l1.length : Int)) = true := decide_eq_true c6
              clear c6
              by_cases c7 : (!(((rd_T65 l0 x5_1).f0) == ((rd_T65 l1 x5_1).f0)) || (!((((rd_T65 l0 x5_1).f1).toList) == (((rd_T65 l1 x5_1).f1).toList)) || (!((((rd_T65 l0 x5_1).f2).toList) == (((rd_T65 l1 x5_1).f2).toList))))) = true
              · rw [if_pos c7] at H
                have c7b0 : (!(((rd_T65 l0 x5_1).f0) == ((rd_T65 l1 x5_1).f0)) || (!((((rd_T65 l0 x5_1).f1).toList) == (((rd_T65 l1 x5_1).f1).toList)) || (!((((rd_T65 l0 x5_1).f2).toList) == (((rd_T65 l1 x5_1).f2).toList))))) = true := c7
                clear c7
                obtain rfl := Option.some.inj H
                have p123 : 0 ≤ (x5_1 : Int) := of_decide_eq_true (by first | (with_reducible assumption) | assumption)
                have q123 : x5_1 < (l0.length : Int) := of_decide_eq_true (by first | (with_reducible assumption) | assumption)
                obtain ⟨ad123, e123, hx123_0, hx123_1, hx123_2⟩ := at_T65 HR0.out x5_1 p123 q123
                cases e123
                replace p123 := eq_true p123
                replace q123 := eq_true q123
                have p124 : 0 ≤ (x5_1 : Int) := of_decide_eq_true (by first | (with_reducible assumption) | assumption)
                have q124 : x5_1 < (l1.length : Int) := of_decide_eq_true (by first | (with_reducible assumption) | assumption)
                obtain ⟨ad124, e124, hx124_0, hx124_1, hx124_2⟩ := at_T65 HR1.out x5_1 p124 q124
                cases e124
                replace p124 := eq_true p124
                replace q124 := eq_true q124
                go_wp2
                repeat (go_quiet (fail); try go_wp2)
                go_ret
                exact ⟨by first | rfl | (simp; done) | (simp [*]; done), by repeat (first | exact Drawn0.refl _ | apply Drawn0.step)⟩
              · rw [if_neg c7] at H
                have c7b0 : (!(((rd_T65 l0 x5_1).f0) == ((rd_T65 l1 x5_1).f0)) || (!((((rd_T65 l0 x5_1).f1).toList) == (((rd_T65 l1 x5_1).f1).toList)) || (!((((rd_T65 l0 x5_1).f2).toList) == (((rd_T65 l1 x5_1).f2).toList))))) = false := by simpa using c7
                clear c7
                have H' := Aside0.mk H
                clear H
                have p123 : 0 ≤ (x5_1 : Int) := of_decide_eq_true (by first | (with_reducible assumption) | assumption)
                have q123 : x5_1 < (l0.length : Int) := of_decide_eq_true (by first | (with_reducible assumption) | assumption)
                obtain ⟨ad123, e123, hx123_0, hx123_1, hx123_2⟩ := at_T65 HR0.out x5_1 p123 q123
                cases e123
                replace p123 := eq_true p123
                replace q123 := eq_true q123
                have p124 : 0 ≤ (x5_1 : Int) := of_decide_eq_true (by first | (with_reducible assumption) | assumption)
                have q124 : x5_1 < (l1.length : Int) := of_decide_eq_true (by first | (with_reducible assumption) | assumption)
                obtain ⟨ad124, e124, hx124_0, hx124_1, hx124_2⟩ := at_T65 HR1.out x5_1 p124 q124
                cases e124
                replace p124 := eq_true p124
                replace q124 := eq_true q124
                go_wp2
                repeat (go_quiet (fail); try go_wp2)
                go_roundg k1
                case measure => have := HK1.out; omega
                case rel => exact ⟨(wrap64 (x5_1 + 1)), (by first | rfl | (simp; done) | (simp [*]; done)), H', ⟨by have := HK1.out; omega⟩, by repeat (first | exact Drawn0.refl _ | apply Drawn0.step)⟩
            · rw [if_neg c6] at H
              exact absurd H (by simp)
          · rw [if_neg c5] at H
            exact absurd H (by simp)
        · rw [if_neg c4] at H
          have c4b0 : decide (x5_1 < (l0.length : Int)) = false := decide_eq_false c4
          clear c4
          obtain rfl := Option.some.inj H
          go_wp2
          repeat (go_quiet (fail); try go_wp2)
          go_ret
          exact ⟨by first | rfl | (simp; done) | (simp [*]; done), by repeat (first | exact Drawn0.refl _ | apply Drawn0.step)⟩
  · rw [if_neg c3] at H
    have c3b0 : ((l0.length : Int) == (l1.length : Int)) = false := beq_eq_false_iff_ne.mpr c3
    have c3b1 : ((l0.length : Int) != (l1.length : Int)) = true := bne_iff_ne.mpr c3
    have c3b2 : (l0.length == l1.length) = false := by first | simpa using c3 | (simp at c3 ⊢; omega)
    obtain rfl := Option.some.inj H
    go_enter Try.func37, Try.ntmps37
    go_wp2
    repeat (go_quiet (fail); try go_wp2)
    go_ret
    exact ⟨by first | rfl | (simp; done) | (simp [*]; done), by repeat (first | exact Drawn0.refl _ | apply Drawn0.step)⟩

end Go.Proofs.Ythkooncibfkepaa.G

/- Contracts typed by hand: morainelaw04.copied: operations in memory of their own, one behind their end -/
namespace Go.Proofs.Ythkooncibfkepaa.G
open Go.RowKit Go.Proofs.YthkooncibfkepaaW.PrintWords Go.Proofs.YthkooncibfkepaaW.PrintLast Go.Proofs.YthkooncibfkepaaW.PrintMore
attribute [local go_sem] max2_int min2_int max_two min_two max_three min_three max_four min_four
set_option linter.unusedVariables false
set_option linter.unusedSimpArgs false

/-! morainelaw04.copied: operations in memory of their own, one behind their end -/
def mark04 : S65 := ⟨77, ⟨#[]⟩, ⟨#[]⟩⟩
theorem mark04_len (l : List S65) : (l ++ [mark04]).length = l.length + 1 := by simp
set_option maxHeartbeats 4000000 in
theorem morainelaw04_copied.calls (A0 : Option Addr) (c0 : Nat) (l0 : List S65) (w : World) (hr0 : Kd.C k65 w A0 l0.length l0) (hl : l0.length ≤ 2097152) :
    Calls Try.prog 15 #[.slice A0 l0.length c0] w fun e w' => ∃ (A : Option Addr) (c : Nat), e = .returned (.slice A l0.length c) ∧ Kd.R k65 65 w' w.heap.size (fun _ => True) (.slice A (l0.length + 1) c) (l0 ++ [mark04]) ∧ Below w.heap.size w w' := by
  have hu := Try.underlying65
  have HR := Aside0.mk hr0
  clear hr0
  have HL := Aside0.mk hl
  have HB := Aside0.mk (Below.refl w.heap.size w)
  go_enter Try.func15, Try.ntmps15
  go_wp2_with (first | ((with_reducible refine gate_dst (N := 3) rfl ?_); refine Kd.R_lit k65 _ 65 ?hg (N := 3) ?hd (xs := ([] : List S65)) (inner := []) (ok := fun _ => True) (okp := fun _ => True) ?hr ?hp (fun _ hk => hk) trivial (Below.refl _ _) (Nat.le_refl _) (by simp) ?_; (case hd => rfl); (case hg => rfl); (case hr => first | (go_simp; done) | (go_simp; rfl)); (case hp => exact (Reps.none _ _)); intro v102 w6 ho7 hb hg_ hnew_; clear hg_ hnew_; have HO1 := Aside0.mk ho7; have HB1 := Aside0.mk hb; clear hb ho7) | ((with_reducible refine gate_builtin (b := .append) (xs := #[.tmp 3, .tmp 4]) rfl ?_); at_builtin; refine Kd.R_append_rows k65 (w0 := w) w.heap.size rfl (.tmp 3) (.tmp 4) 22 65 (.agg #[(.int .i64 0), (.string ⟨#[]⟩), (.string ⟨#[]⟩)]) 40 rfl Try.underlying22 info65 rfl (by decide) (by omega) v102 [] l0 _ _ _ (fun _ => True) (fun _ => False) rfl rfl ?aO ?aR (fun _ _ h => h) (fun _ h => h.elim) (fun _ _ => trivial) ?aB ?aS ?aL ?_; (case aR => exact (Kd.C_below HR.out HB1.out)); (case aB => exact HB1.out); (case aO => exact HO1.out); (case aS => exact HB1.out.size); (case aL => have := HL.out; simp; omega); intro v105 w8 ho hb hg hat; have HO2 := Aside0.mk ho; have HB2 := Aside0.mk hb; clear ho hb hg hat) | ((with_reducible refine gate_builtin (b := .append) (xs := #[.tmp 5, .tmp 7]) rfl ?_); at_builtin; refine Kd.R_append k65 (w0 := w) w.heap.size rfl (.tmp 5) (.tmp 7) 22 65 (.agg #[(.int .i64 0), (.string ⟨#[]⟩), (.string ⟨#[]⟩)]) 40 rfl Try.underlying22 info65 rfl (by decide) (by omega) v105 ([] ++ l0) mark04 [.int .i64 77, .string (⟨#[]⟩ : ByteArray), .string (⟨#[]⟩ : ByteArray)] (fun _ => True) (fun _ => False) rfl rfl ?aP (fun _ hk => hk.elim) (fun _ _ => trivial) ?aO ?aB ?aS ?aL ?_; (case aP => exact k65_mkM _ _ _ mark04); (case aB => exact HB2.out); (case aO => exact HO2.out); (case aS => exact HB2.out.size); (case aL => have := HL.out; simp; omega); intro v108 w9 ho hb hg hat; have ho2 : Kd.R k65 65 w9 w.heap.size (fun _ => True) v108 (l0 ++ [mark04]) := ho; have HB3 := Aside0.mk hb; clear ho hb hg hat; obtain ⟨Ao10, co10, eo10⟩ := Kd.R_slice ho2; subst eo10; rw [mark04_len] at ho2; have HO3 := Aside0.mk ho2; have hcc : l0.length + 1 ≤ co10 := (Kd.R_reads' ho2).2.1; clear ho2; obtain ⟨i011, hi011, _, hsz11, _⟩ := info_parts info65; rw [mark04_len]; have hcut11 := cut_to (P := Try.prog) 22 65 .i64 Try.underlying22 hi011 Ao10 (l0.length + 1) co10 (l0.length : Int) (by omega) (by omega) hcc; rw [Int.toNat_natCast] at hcut11; clear hi011 hsz11))
  go_ret
  exact ⟨_, _, rfl, HO3.out, HB3.out⟩

end Go.Proofs.Ythkooncibfkepaa.G

/- Contracts typed by hand: morainelaw04.stay: such a copy stands as it was -/
namespace Go.Proofs.Ythkooncibfkepaa.G
open Go.RowKit Go.Proofs.YthkooncibfkepaaW.PrintWords Go.Proofs.YthkooncibfkepaaW.PrintLast Go.Proofs.YthkooncibfkepaaW.PrintMore
attribute [local go_sem] max2_int min2_int max_two min_two max_three min_three max_four min_four
set_option linter.unusedVariables false
set_option linter.unusedSimpArgs false

/-! morainelaw04.stay: such a copy stands as it was -/
theorem same_loop (l : List S65) (hl : l.length ≤ 1099511627776) : ∀ (d i k : Nat), i + d = l.length → morainelaw04_same.l0 (k + d + 1) l l (i : Int) = some true
  | 0, i, k, hi => by rw [morainelaw04_same.l0, if_neg (by omega)]
  | d + 1, i, k, hi => by
    have c0 : (i : Int) < (l.length : Int) := by omega
    have c1 : 0 ≤ (i : Int) := Int.natCast_nonneg _
    have e5 : wrap64 ((i : Int) + 1) = ((i + 1 : Nat) : Int) := by unfold wrap64; omega
    rw [show k + (d + 1) + 1 = (k + d + 1) + 1 by omega, morainelaw04_same.l0, if_pos c0, if_pos c1, if_pos c0, if_neg (by simp), e5]
    exact same_loop l hl d (i + 1) k (by omega)
theorem same_self (l : List S65) (hl : l.length ≤ 1099511627776) : morainelaw04_same.f (l.length + 1) l l = some true := by
  unfold morainelaw04_same.f
  rw [if_pos rfl]
  have := same_loop l hl l.length 0 0 (by omega)
  rw [Nat.zero_add] at this
  exact this
theorem C_prefix65 {w : World} {A : Option Addr} {xs ys : List S65} (h : Kd.C k65 w A (xs.length + ys.length) (xs ++ ys)) : Kd.C k65 w A xs.length xs := by
  rw [← List.length_append] at h
  have h1 := Kd.C_take (m := xs.length) h (by simp)
  rwa [List.take_left] at h1
theorem mark_rd (l : List S65) : rd_T65 (l ++ [mark04]) (l.length : Int) = mark04 := by simp [rd_T65, List.getD_eq_getElem?_getD]
set_option maxHeartbeats 4000000 in
set_option maxRecDepth 100000 in
theorem morainelaw04_stay.calls (A0 : Option Addr) (c0 : Nat) (l0 : List S65) (A1 : Option Addr) (c1 : Nat) (w : World) (hr0 : Kd.C k65 w A0 (l0.length + 1) (l0 ++ [mark04])) (hc0 : l0.length + 1 ≤ c0) (hr1 : Kd.C k65 w A1 l0.length l0) (hc1 : l0.length ≤ c1) (hl : l0.length ≤ 2097152) :
    Calls Try.prog 20 #[.slice A0 l0.length c0, .slice A1 l0.length c1] w fun e w' => e = .returned (.bool true) ∧ Drawn0 w w' := by
  have hu := Try.underlying65
  have HR0 := Aside0.mk (C_prefix65 (ys := [mark04]) hr0)
  have HR1 := Aside0.mk hr1
  have HC1 := Aside0.mk hc1
  have HS := Aside0.mk (same_self l0 (by omega))
  obtain ⟨ad, e1, h0, h1, h2⟩ := at_T65 hr0 (l0.length : Int) (by omega) (by omega)
  rw [mark_rd, Int.toNat_natCast] at h0 h1 h2
  cases e1
  have g0 : w.cell? (ad.add (l0.length * 3)) = some (.int .i64 77) := h0
  have g1 : w.cell? ⟨(ad.add (l0.length * 3)).block, (ad.add (l0.length * 3)).off + 1, none⟩ = some (.string (⟨#[]⟩ : ByteArray)) := h1
  have g2 : w.cell? ⟨(ad.add (l0.length * 3)).block, (ad.add (l0.length * 3)).off + 2, none⟩ = some (.string (⟨#[]⟩ : ByteArray)) := h2
  clear h0 h1 h2 hr0 hr1 hc1
  have HC0 := Aside0.mk (show l0.length ≤ c0 by omega)
  go_enter Try.func20, Try.ntmps20
  go_wp2_with (first | (go_at_call 37; (with_reducible refine (morainelaw04_same.calls _ _ _ l0 _ _ l0 true _ HR0.out HC0.out HR1.out HC1.out HS.out).mono ?_); rintro e w1 ⟨rfl, ⟨n, rfl⟩⟩))
  go_ret
  exact ⟨by simp, ⟨⟨n, rfl⟩⟩⟩

end Go.Proofs.Ythkooncibfkepaa.G

/- Contracts typed by hand: an argument that can be read is of its kind: from the form's reading to the words of the walks -/
namespace Go.Proofs.Ythkooncibfkepaa.G
open Go.RowKit Go.Proofs.YthkooncibfkepaaW.PrintWords Go.Proofs.YthkooncibfkepaaW.PrintLast Go.Proofs.YthkooncibfkepaaW.PrintMore
attribute [local go_sem] max2_int min2_int max_two min_two max_three min_three max_four min_four
set_option linter.unusedVariables false
set_option linter.unusedSimpArgs false

/-! an argument that can be read is of its kind: from the form's reading to the words of the walks -/
open Go.ChangeShapes Go.WideShapes Go.Deep
structure Opens (P : Program) (t : TypeId) {α : Type} (d : Kd α) (good : α → Prop) (bulk : α → Nat) : Prop where
  sz : P.cellsOf t = d.sz
  one : ∀ x, 1 ≤ bulk x
  go : ∀ {H : Type} {enc : TypeId × Value → H} {w : World} {base : Nat} {spare : Nat → Bool} {held : Bool} {fuel : Nat} {cs : List Value} {x : DataW H × List MemPlace}, DataW.trod enc P w base spare held fuel t cs = some x → ∃ a : α, d.K w a cs ∧ good a ∧ bulk a ≤ Rows.uptoBulk x.1
theorem opens_int {P : Program} {t : TypeId} {k : IntKind} (h : P.underlying t = some (.int k)) (hc : P.cellsOf t = 1) : Opens P t (Kd.int k) (fun n => (Lit.int k n).wf = true) (fun _ => 1) where
  sz := hc
  one := fun _ => Nat.le_refl 1
  go := by
    intro H enc w base spare held fuel cs x hx
    obtain ⟨n, rfl, rfl, hw⟩ := DataW.trod_int h hx
    exact ⟨n, rfl, hw, by simp [Rows.uptoBulk]⟩
theorem opens_bool {P : Program} {t : TypeId} (h : P.underlying t = some .bool) (hc : P.cellsOf t = 1) : Opens P t Kd.bool (fun _ => True) (fun _ => 1) where
  sz := hc
  one := fun _ => Nat.le_refl 1
  go := by
    intro H enc w base spare held fuel cs x hx
    obtain ⟨n, rfl, rfl⟩ := DataW.trod_bool h hx
    exact ⟨n, rfl, trivial, by simp [Rows.uptoBulk]⟩
theorem opens_string {P : Program} {t : TypeId} (h : P.underlying t = some .string) (hc : P.cellsOf t = 1) : Opens P t Kd.string (fun s => s.size ≤ maxLen) (fun s => s.size + 1) where
  sz := hc
  one := fun s => Nat.le_add_left 1 s.size
  go := by
    intro H enc w base spare held fuel cs x hx
    obtain ⟨s, rfl, rfl, hw⟩ := DataW.trod_string h hx
    exact ⟨s, rfl, hw, by simp [Rows.uptoBulk]⟩
def sumBulk {α : Type} (bulk : α → Nat) (l : List α) : Nat := (l.map bulk).sum
theorem sumBulk_nil {α : Type} (bulk : α → Nat) : sumBulk bulk [] = 0 := rfl
theorem sumBulk_cons {α : Type} (bulk : α → Nat) (x : α) (l : List α) : sumBulk bulk (x :: l) = bulk x + sumBulk bulk l := by simp [sumBulk]
theorem sumBulk_append {α : Type} (bulk : α → Nat) (l r : List α) : sumBulk bulk (l ++ r) = sumBulk bulk l + sumBulk bulk r := by simp [sumBulk, List.sum_append]
theorem sumBulk_mem {α : Type} (bulk : α → Nat) {x : α} {l : List α} (h : x ∈ l) : bulk x ≤ sumBulk bulk l := by
  induction l with
  | nil => cases h
  | cons y r ih =>
    rw [sumBulk_cons]
    rcases List.mem_cons.1 h with rfl | h
    · omega
    · have := ih h; omega
theorem sumBulk_len {α : Type} (bulk : α → Nat) (h1 : ∀ x, 1 ≤ bulk x) (l : List α) : l.length ≤ sumBulk bulk l := by
  induction l with
  | nil => exact Nat.zero_le _
  | cons y r ih => rw [sumBulk_cons, List.length_cons]; have := h1 y; omega
theorem list_of {α : Type} {Q : Nat → α → Prop} : ∀ (n : Nat), (∀ i, i < n → ∃ y, Q i y) → ∃ l : List α, l.length = n ∧ ∀ i y, l[i]? = some y → Q i y
  | 0, _ => ⟨[], rfl, fun i y h => by simp at h⟩
  | n + 1, h => by
    obtain ⟨l, hl, hq⟩ := list_of n (fun i hi => h i (by omega))
    obtain ⟨y, hy⟩ := h n (by omega)
    refine ⟨l ++ [y], by simp [hl], fun i z hz => ?_⟩
    rcases Nat.lt_trichotomy i n with hi | hi | hi
    · rw [List.getElem?_append_left (by omega)] at hz
      exact hq i z hz
    · subst hi
      rw [List.getElem?_append_right (by omega), hl] at hz
      simp at hz
      subst hz
      exact hy
    · rw [List.getElem?_eq_none (by simp [hl]; omega)] at hz
      cases hz
theorem bulkAll_append {H : Type} (l r : List (DataW H)) : Rows.uptoBulkAll (l ++ r) = Rows.uptoBulkAll l + Rows.uptoBulkAll r := by
  induction l with
  | nil => simp [Rows.uptoBulkAll]
  | cons x l ih => simp only [List.cons_append, Rows.uptoBulkAll, ih]; omega
theorem bulkAll_map {H : Type} {α : Type} (bulk : α → Nat) (D : Nat → DataW H) : ∀ (n : Nat) (l : List α), l.length = n → (∀ i y, l[i]? = some y → bulk y ≤ Rows.uptoBulk (D i)) → sumBulk bulk l ≤ Rows.uptoBulkAll ((List.range n).map D)
  | 0, l, hl, _ => by
    have : l = [] := List.length_eq_zero_iff.1 hl
    subst this
    simp [sumBulk]
  | n + 1, l, hl, h => by
    have hne : l ≠ [] := by
      intro e
      rw [e] at hl
      simp at hl
    obtain ⟨l0, y0, rfl⟩ : ∃ l0 y0, l = l0 ++ [y0] := ⟨l.dropLast, l.getLast hne, (List.dropLast_concat_getLast hne).symm⟩
    have hd : l0.length = n := by simpa using hl
    have ih := bulkAll_map bulk D n l0 hd (fun i y hy => h i y (by
      have hi : i < l0.length := (List.getElem?_eq_some_iff.1 hy).1
      rw [List.getElem?_append_left hi]
      exact hy))
    have hn := h n y0 (by
      rw [List.getElem?_append_right (by omega), hd]
      simp)
    rw [List.range_succ, List.map_append, bulkAll_append, sumBulk_append]
    simp only [List.map_cons, List.map_nil, sumBulk_cons, sumBulk_nil, Rows.uptoBulkAll]
    omega
theorem opens_slice {P : Program} {t e : TypeId} {α : Type} {d : Kd α} {good : α → Prop} {bulk : α → Nat} (h : P.underlying t = some (.slice e)) (hc : P.cellsOf t = 1) (he : Opens P e d good bulk) : Opens P t (Kd.slice e d) (fun l => ∀ x ∈ l, good x) (fun l => sumBulk bulk l + 1) where
  sz := hc
  one := fun l => Nat.le_add_left 1 _
  go := by
    intro H enc w base spare held fuel cs x hx
    rcases open_slice h hx with ⟨rfl, rfl⟩ | ⟨a, len, cap, m, n, D, Pl, rfl, hb, hl, hm, hmm, rfl, hi⟩
    · exact ⟨[], ⟨none, 0, rfl, Nat.le_refl _, Kd.C_nil _ _⟩, by simp, by simp [sumBulk, Rows.uptoBulk]⟩
    · have hlm : len ≤ m := by
        rw [hmm]
        split
        · exact hl
        · exact Nat.le_refl _
      obtain ⟨l, hll, hq⟩ := list_of (Q := fun i y => ∃ cs', w.cells? base (a.add (i * P.cellsOf e)) (P.cellsOf e) = some cs' ∧ d.K w y cs' ∧ good y ∧ bulk y ≤ Rows.uptoBulk (D i)) len (fun i hlt => by
        obtain ⟨cs', hcs, ht⟩ := hi i (by omega)
        obtain ⟨y, h1, h2, h3⟩ := he.go ht
        exact ⟨y, cs', hcs, h1, h2, h3⟩)
      subst hll
      refine ⟨l, ⟨some a, cap, rfl, hl, rfl, by unfold maxLen at hm; omega, fun _ => ⟨a, rfl, fun j p hj => ?_⟩⟩, fun x hx => ?_, ?_⟩
      · obtain ⟨cs', hcs, hk, _, _⟩ := hq j p hj
        obtain ⟨_, hlen, hat⟩ := World.cells?_some hcs
        rw [he.sz] at hlen hat
        refine ⟨cs', hlen, hk, fun i u hu => ?_⟩
        have hil : i < cs'.length := (List.getElem?_eq_some_iff.1 hu).1
        have := hat i (by omega)
        rw [Go.Deep.add_add] at this
        rw [this, hu]
      · obtain ⟨i, hi2⟩ := List.getElem?_of_mem hx
        obtain ⟨_, _, _, hg, _⟩ := hq i x hi2
        exact hg
      · have hbk := bulkAll_map bulk D l.length l rfl (fun i y hy => by
          obtain ⟨_, _, _, _, h5⟩ := hq i y hy
          exact h5)
        simp only [Rows.uptoBulk]
        omega
theorem opens_struct2 {P : Program} {t : TypeId} {f0 f1 : Field} {α β : Type} {d0 : Kd α} {d1 : Kd β} {g0 : α → Prop} {g1 : β → Prop} {b0 : α → Nat} {b1 : β → Nat} (ht : P.underlying t = some (.struct #[f0, f1])) (hc : P.cellsOf t = d0.sz + d1.sz)
    (ho0 : f0.offset = 0) (ho1 : f1.offset = d0.sz) (h0 : Opens P f0.type d0 g0 b0) (h1 : Opens P f1.type d1 g1 b1) : Opens P t (Kd.pair d0 d1) (fun x => g0 x.1 ∧ g1 x.2) (fun x => b0 x.1 + b1 x.2 + 1) where
  sz := hc
  one := fun l => Nat.le_add_left 1 _
  go := by
    intro H enc w base spare held fuel cs x hx
    obtain ⟨y0, y1, n, rfl, hl, e0, e1⟩ := trod_struct2 ht hx
    obtain ⟨a, k0, q0, p0⟩ := h0.go e0
    obtain ⟨b, k1, q1, p1⟩ := h1.go e1
    rw [ho0, h0.sz] at k0
    rw [ho1, h1.sz] at k1
    refine ⟨(a, b), ⟨_, _, ?_, k0, k1⟩, ⟨q0, q1⟩, ?_⟩
    · rw [List.drop_zero]
      have hd : (cs.drop d0.sz).take d1.sz = cs.drop d0.sz := List.take_of_length_le (by rw [List.length_drop]; omega)
      rw [hd, List.take_append_drop]
    · simp only [Rows.uptoBulk, Rows.uptoBulkAll]
      omega
theorem opens_struct3 {P : Program} {t : TypeId} {f0 f1 f2 : Field} {α β γ : Type} {d0 : Kd α} {d1 : Kd β} {d2 : Kd γ} {g0 : α → Prop} {g1 : β → Prop} {g2 : γ → Prop} {b0 : α → Nat} {b1 : β → Nat} {b2 : γ → Nat} (ht : P.underlying t = some (.struct #[f0, f1, f2])) (hc : P.cellsOf t = d0.sz + (d1.sz + d2.sz))
    (ho0 : f0.offset = 0) (ho1 : f1.offset = d0.sz) (ho2 : f2.offset = d0.sz + d1.sz) (h0 : Opens P f0.type d0 g0 b0) (h1 : Opens P f1.type d1 g1 b1) (h2 : Opens P f2.type d2 g2 b2) : Opens P t (Kd.pair d0 (Kd.pair d1 d2)) (fun x => g0 x.1 ∧ g1 x.2.1 ∧ g2 x.2.2) (fun x => b0 x.1 + b1 x.2.1 + b2 x.2.2 + 1) where
  sz := hc
  one := fun l => Nat.le_add_left 1 _
  go := by
    intro H enc w base spare held fuel cs x hx
    obtain ⟨y0, y1, y2, n, rfl, hl, e0, e1, e2⟩ := trod_struct3 ht hx
    obtain ⟨a, k0, q0, p0⟩ := h0.go e0
    obtain ⟨b, k1, q1, p1⟩ := h1.go e1
    obtain ⟨c, k2, q2, p2⟩ := h2.go e2
    rw [ho0, h0.sz] at k0
    rw [ho1, h1.sz] at k1
    rw [ho2, h2.sz] at k2
    refine ⟨(a, b, c), ⟨_, _, ?_, k0, _, _, rfl, k1, k2⟩, ⟨q0, q1, q2⟩, ?_⟩
    · rw [List.drop_zero]
      have hd : (cs.drop (d0.sz + d1.sz)).take d2.sz = cs.drop (d0.sz + d1.sz) := List.take_of_length_le (by rw [List.length_drop]; omega)
      rw [hd, ← List.drop_drop, List.take_append_drop, List.take_append_drop]
    · simp only [Rows.uptoBulk, Rows.uptoBulkAll]
      omega
theorem seg_join {α : Type} (cs : List α) (o n : Nat) : (cs.drop o).take n ++ cs.drop (o + n) = cs.drop o := by
  rw [← List.drop_drop, List.take_append_drop]
theorem opens_struct4 {P : Program} {t : TypeId} {f0 f1 f2 f3 : Field} {α0 α1 α2 α3 : Type} {d0 : Kd α0} {d1 : Kd α1} {d2 : Kd α2} {d3 : Kd α3} {g0 : α0 → Prop} {g1 : α1 → Prop} {g2 : α2 → Prop} {g3 : α3 → Prop} {b0 : α0 → Nat} {b1 : α1 → Nat} {b2 : α2 → Nat} {b3 : α3 → Nat} (ht : P.underlying t = some (.struct #[f0, f1, f2, f3])) (hc : P.cellsOf t = (d0.sz + (d1.sz + (d2.sz + d3.sz))))
    (ho0 : f0.offset = 0) (ho1 : f1.offset = d0.sz) (ho2 : f2.offset = d0.sz + d1.sz) (ho3 : f3.offset = d0.sz + d1.sz + d2.sz) (h0 : Opens P f0.type d0 g0 b0) (h1 : Opens P f1.type d1 g1 b1) (h2 : Opens P f2.type d2 g2 b2) (h3 : Opens P f3.type d3 g3 b3) : Opens P t (Kd.pair d0 (Kd.pair d1 (Kd.pair d2 d3))) (fun x => g0 x.1 ∧ g1 x.2.1 ∧ g2 x.2.2.1 ∧ g3 x.2.2.2) (fun x => b0 x.1 + b1 x.2.1 + b2 x.2.2.1 + b3 x.2.2.2 + 1) where
  sz := hc
  one := fun l => Nat.le_add_left 1 _
  go := by
    intro H enc w base spare held fuel cs x hx
    obtain ⟨xs, n, _, rfl, hl, hlen, hf⟩ := DataW.trod_struct ht hx
    match xs, hlen with
    | [y0, y1, y2, y3], _ =>
      obtain ⟨a0, k0, q0, p0⟩ := h0.go (show DataW.trod enc P w base spare held n f0.type ((cs.drop f0.offset).take (P.cellsOf f0.type)) = some y0 from by simpa using hf 0 f0 rfl)
      rw [ho0, h0.sz] at k0
      obtain ⟨a1, k1, q1, p1⟩ := h1.go (show DataW.trod enc P w base spare held n f1.type ((cs.drop f1.offset).take (P.cellsOf f1.type)) = some y1 from by simpa using hf 1 f1 rfl)
      rw [ho1, h1.sz] at k1
      obtain ⟨a2, k2, q2, p2⟩ := h2.go (show DataW.trod enc P w base spare held n f2.type ((cs.drop f2.offset).take (P.cellsOf f2.type)) = some y2 from by simpa using hf 2 f2 rfl)
      rw [ho2, h2.sz] at k2
      obtain ⟨a3, k3, q3, p3⟩ := h3.go (show DataW.trod enc P w base spare held n f3.type ((cs.drop f3.offset).take (P.cellsOf f3.type)) = some y3 from by simpa using hf 3 f3 rfl)
      rw [ho3, h3.sz] at k3
      refine ⟨(a0, a1, a2, a3), ⟨_, _, ?_, k0, _, _, rfl, k1, _, _, rfl, k2, k3⟩, ⟨q0, q1, q2, q3⟩, ?_⟩
      · rw [List.drop_zero]
        have hd : (cs.drop (d0.sz + d1.sz + d2.sz)).take d3.sz = cs.drop (d0.sz + d1.sz + d2.sz) := List.take_of_length_le (by rw [List.length_drop]; omega)
        rw [hd, seg_join, seg_join, List.take_append_drop]
      · simp only [List.map_cons, List.map_nil, Rows.uptoBulk, Rows.uptoBulkAll]
        omega
theorem opens_struct5 {P : Program} {t : TypeId} {f0 f1 f2 f3 f4 : Field} {α0 α1 α2 α3 α4 : Type} {d0 : Kd α0} {d1 : Kd α1} {d2 : Kd α2} {d3 : Kd α3} {d4 : Kd α4} {g0 : α0 → Prop} {g1 : α1 → Prop} {g2 : α2 → Prop} {g3 : α3 → Prop} {g4 : α4 → Prop} {b0 : α0 → Nat} {b1 : α1 → Nat} {b2 : α2 → Nat} {b3 : α3 → Nat} {b4 : α4 → Nat} (ht : P.underlying t = some (.struct #[f0, f1, f2, f3, f4])) (hc : P.cellsOf t = (d0.sz + (d1.sz + (d2.sz + (d3.sz + d4.sz)))))
    (ho0 : f0.offset = 0) (ho1 : f1.offset = d0.sz) (ho2 : f2.offset = d0.sz + d1.sz) (ho3 : f3.offset = d0.sz + d1.sz + d2.sz) (ho4 : f4.offset = d0.sz + d1.sz + d2.sz + d3.sz) (h0 : Opens P f0.type d0 g0 b0) (h1 : Opens P f1.type d1 g1 b1) (h2 : Opens P f2.type d2 g2 b2) (h3 : Opens P f3.type d3 g3 b3) (h4 : Opens P f4.type d4 g4 b4) : Opens P t (Kd.pair d0 (Kd.pair d1 (Kd.pair d2 (Kd.pair d3 d4)))) (fun x => g0 x.1 ∧ g1 x.2.1 ∧ g2 x.2.2.1 ∧ g3 x.2.2.2.1 ∧ g4 x.2.2.2.2) (fun x => b0 x.1 + b1 x.2.1 + b2 x.2.2.1 + b3 x.2.2.2.1 + b4 x.2.2.2.2 + 1) where
  sz := hc
  one := fun l => Nat.le_add_left 1 _
  go := by
    intro H enc w base spare held fuel cs x hx
    obtain ⟨xs, n, _, rfl, hl, hlen, hf⟩ := DataW.trod_struct ht hx
    match xs, hlen with
    | [y0, y1, y2, y3, y4], _ =>
      obtain ⟨a0, k0, q0, p0⟩ := h0.go (show DataW.trod enc P w base spare held n f0.type ((cs.drop f0.offset).take (P.cellsOf f0.type)) = some y0 from by simpa using hf 0 f0 rfl)
      rw [ho0, h0.sz] at k0
      obtain ⟨a1, k1, q1, p1⟩ := h1.go (show DataW.trod enc P w base spare held n f1.type ((cs.drop f1.offset).take (P.cellsOf f1.type)) = some y1 from by simpa using hf 1 f1 rfl)
      rw [ho1, h1.sz] at k1
      obtain ⟨a2, k2, q2, p2⟩ := h2.go (show DataW.trod enc P w base spare held n f2.type ((cs.drop f2.offset).take (P.cellsOf f2.type)) = some y2 from by simpa using hf 2 f2 rfl)
      rw [ho2, h2.sz] at k2
      obtain ⟨a3, k3, q3, p3⟩ := h3.go (show DataW.trod enc P w base spare held n f3.type ((cs.drop f3.offset).take (P.cellsOf f3.type)) = some y3 from by simpa using hf 3 f3 rfl)
      rw [ho3, h3.sz] at k3
      obtain ⟨a4, k4, q4, p4⟩ := h4.go (show DataW.trod enc P w base spare held n f4.type ((cs.drop f4.offset).take (P.cellsOf f4.type)) = some y4 from by simpa using hf 4 f4 rfl)
      rw [ho4, h4.sz] at k4
      refine ⟨(a0, a1, a2, a3, a4), ⟨_, _, ?_, k0, _, _, rfl, k1, _, _, rfl, k2, _, _, rfl, k3, k4⟩, ⟨q0, q1, q2, q3, q4⟩, ?_⟩
      · rw [List.drop_zero]
        have hd : (cs.drop (d0.sz + d1.sz + d2.sz + d3.sz)).take d4.sz = cs.drop (d0.sz + d1.sz + d2.sz + d3.sz) := List.take_of_length_le (by rw [List.length_drop]; omega)
        rw [hd, seg_join, seg_join, seg_join, List.take_append_drop]
      · simp only [List.map_cons, List.map_nil, Rows.uptoBulk, Rows.uptoBulkAll]
        omega
theorem opens_struct6 {P : Program} {t : TypeId} {f0 f1 f2 f3 f4 f5 : Field} {α0 α1 α2 α3 α4 α5 : Type} {d0 : Kd α0} {d1 : Kd α1} {d2 : Kd α2} {d3 : Kd α3} {d4 : Kd α4} {d5 : Kd α5} {g0 : α0 → Prop} {g1 : α1 → Prop} {g2 : α2 → Prop} {g3 : α3 → Prop} {g4 : α4 → Prop} {g5 : α5 → Prop} {b0 : α0 → Nat} {b1 : α1 → Nat} {b2 : α2 → Nat} {b3 : α3 → Nat} {b4 : α4 → Nat} {b5 : α5 → Nat} (ht : P.underlying t = some (.struct #[f0, f1, f2, f3, f4, f5])) (hc : P.cellsOf t = (d0.sz + (d1.sz + (d2.sz + (d3.sz + (d4.sz + d5.sz))))))
    (ho0 : f0.offset = 0) (ho1 : f1.offset = d0.sz) (ho2 : f2.offset = d0.sz + d1.sz) (ho3 : f3.offset = d0.sz + d1.sz + d2.sz) (ho4 : f4.offset = d0.sz + d1.sz + d2.sz + d3.sz) (ho5 : f5.offset = d0.sz + d1.sz + d2.sz + d3.sz + d4.sz) (h0 : Opens P f0.type d0 g0 b0) (h1 : Opens P f1.type d1 g1 b1) (h2 : Opens P f2.type d2 g2 b2) (h3 : Opens P f3.type d3 g3 b3) (h4 : Opens P f4.type d4 g4 b4) (h5 : Opens P f5.type d5 g5 b5) : Opens P t (Kd.pair d0 (Kd.pair d1 (Kd.pair d2 (Kd.pair d3 (Kd.pair d4 d5))))) (fun x => g0 x.1 ∧ g1 x.2.1 ∧ g2 x.2.2.1 ∧ g3 x.2.2.2.1 ∧ g4 x.2.2.2.2.1 ∧ g5 x.2.2.2.2.2) (fun x => b0 x.1 + b1 x.2.1 + b2 x.2.2.1 + b3 x.2.2.2.1 + b4 x.2.2.2.2.1 + b5 x.2.2.2.2.2 + 1) where
  sz := hc
  one := fun l => Nat.le_add_left 1 _
  go := by
    intro H enc w base spare held fuel cs x hx
    obtain ⟨xs, n, _, rfl, hl, hlen, hf⟩ := DataW.trod_struct ht hx
    match xs, hlen with
    | [y0, y1, y2, y3, y4, y5], _ =>
      obtain ⟨a0, k0, q0, p0⟩ := h0.go (show DataW.trod enc P w base spare held n f0.type ((cs.drop f0.offset).take (P.cellsOf f0.type)) = some y0 from by simpa using hf 0 f0 rfl)
      rw [ho0, h0.sz] at k0
      obtain ⟨a1, k1, q1, p1⟩ := h1.go (show DataW.trod enc P w base spare held n f1.type ((cs.drop f1.offset).take (P.cellsOf f1.type)) = some y1 from by simpa using hf 1 f1 rfl)
      rw [ho1, h1.sz] at k1
      obtain ⟨a2, k2, q2, p2⟩ := h2.go (show DataW.trod enc P w base spare held n f2.type ((cs.drop f2.offset).take (P.cellsOf f2.type)) = some y2 from by simpa using hf 2 f2 rfl)
      rw [ho2, h2.sz] at k2
      obtain ⟨a3, k3, q3, p3⟩ := h3.go (show DataW.trod enc P w base spare held n f3.type ((cs.drop f3.offset).take (P.cellsOf f3.type)) = some y3 from by simpa using hf 3 f3 rfl)
      rw [ho3, h3.sz] at k3
      obtain ⟨a4, k4, q4, p4⟩ := h4.go (show DataW.trod enc P w base spare held n f4.type ((cs.drop f4.offset).take (P.cellsOf f4.type)) = some y4 from by simpa using hf 4 f4 rfl)
      rw [ho4, h4.sz] at k4
      obtain ⟨a5, k5, q5, p5⟩ := h5.go (show DataW.trod enc P w base spare held n f5.type ((cs.drop f5.offset).take (P.cellsOf f5.type)) = some y5 from by simpa using hf 5 f5 rfl)
      rw [ho5, h5.sz] at k5
      refine ⟨(a0, a1, a2, a3, a4, a5), ⟨_, _, ?_, k0, _, _, rfl, k1, _, _, rfl, k2, _, _, rfl, k3, _, _, rfl, k4, k5⟩, ⟨q0, q1, q2, q3, q4, q5⟩, ?_⟩
      · rw [List.drop_zero]
        have hd : (cs.drop (d0.sz + d1.sz + d2.sz + d3.sz + d4.sz)).take d5.sz = cs.drop (d0.sz + d1.sz + d2.sz + d3.sz + d4.sz) := List.take_of_length_le (by rw [List.length_drop]; omega)
        rw [hd, seg_join, seg_join, seg_join, seg_join, List.take_append_drop]
      · simp only [List.map_cons, List.map_nil, Rows.uptoBulk, Rows.uptoBulkAll]
        omega
theorem opens_struct7 {P : Program} {t : TypeId} {f0 f1 f2 f3 f4 f5 f6 : Field} {α0 α1 α2 α3 α4 α5 α6 : Type} {d0 : Kd α0} {d1 : Kd α1} {d2 : Kd α2} {d3 : Kd α3} {d4 : Kd α4} {d5 : Kd α5} {d6 : Kd α6} {g0 : α0 → Prop} {g1 : α1 → Prop} {g2 : α2 → Prop} {g3 : α3 → Prop} {g4 : α4 → Prop} {g5 : α5 → Prop} {g6 : α6 → Prop} {b0 : α0 → Nat} {b1 : α1 → Nat} {b2 : α2 → Nat} {b3 : α3 → Nat} {b4 : α4 → Nat} {b5 : α5 → Nat} {b6 : α6 → Nat} (ht : P.underlying t = some (.struct #[f0, f1, f2, f3, f4, f5, f6])) (hc : P.cellsOf t = (d0.sz + (d1.sz + (d2.sz + (d3.sz + (d4.sz + (d5.sz + d6.sz)))))))
    (ho0 : f0.offset = 0) (ho1 : f1.offset = d0.sz) (ho2 : f2.offset = d0.sz + d1.sz) (ho3 : f3.offset = d0.sz + d1.sz + d2.sz) (ho4 : f4.offset = d0.sz + d1.sz + d2.sz + d3.sz) (ho5 : f5.offset = d0.sz + d1.sz + d2.sz + d3.sz + d4.sz) (ho6 : f6.offset = d0.sz + d1.sz + d2.sz + d3.sz + d4.sz + d5.sz) (h0 : Opens P f0.type d0 g0 b0) (h1 : Opens P f1.type d1 g1 b1) (h2 : Opens P f2.type d2 g2 b2) (h3 : Opens P f3.type d3 g3 b3) (h4 : Opens P f4.type d4 g4 b4) (h5 : Opens P f5.type d5 g5 b5) (h6 : Opens P f6.type d6 g6 b6) : Opens P t (Kd.pair d0 (Kd.pair d1 (Kd.pair d2 (Kd.pair d3 (Kd.pair d4 (Kd.pair d5 d6)))))) (fun x => g0 x.1 ∧ g1 x.2.1 ∧ g2 x.2.2.1 ∧ g3 x.2.2.2.1 ∧ g4 x.2.2.2.2.1 ∧ g5 x.2.2.2.2.2.1 ∧ g6 x.2.2.2.2.2.2) (fun x => b0 x.1 + b1 x.2.1 + b2 x.2.2.1 + b3 x.2.2.2.1 + b4 x.2.2.2.2.1 + b5 x.2.2.2.2.2.1 + b6 x.2.2.2.2.2.2 + 1) where
  sz := hc
  one := fun l => Nat.le_add_left 1 _
  go := by
    intro H enc w base spare held fuel cs x hx
    obtain ⟨xs, n, _, rfl, hl, hlen, hf⟩ := DataW.trod_struct ht hx
    match xs, hlen with
    | [y0, y1, y2, y3, y4, y5, y6], _ =>
      obtain ⟨a0, k0, q0, p0⟩ := h0.go (show DataW.trod enc P w base spare held n f0.type ((cs.drop f0.offset).take (P.cellsOf f0.type)) = some y0 from by simpa using hf 0 f0 rfl)
      rw [ho0, h0.sz] at k0
      obtain ⟨a1, k1, q1, p1⟩ := h1.go (show DataW.trod enc P w base spare held n f1.type ((cs.drop f1.offset).take (P.cellsOf f1.type)) = some y1 from by simpa using hf 1 f1 rfl)
      rw [ho1, h1.sz] at k1
      obtain ⟨a2, k2, q2, p2⟩ := h2.go (show DataW.trod enc P w base spare held n f2.type ((cs.drop f2.offset).take (P.cellsOf f2.type)) = some y2 from by simpa using hf 2 f2 rfl)
      rw [ho2, h2.sz] at k2
      obtain ⟨a3, k3, q3, p3⟩ := h3.go (show DataW.trod enc P w base spare held n f3.type ((cs.drop f3.offset).take (P.cellsOf f3.type)) = some y3 from by simpa using hf 3 f3 rfl)
      rw [ho3, h3.sz] at k3
      obtain ⟨a4, k4, q4, p4⟩ := h4.go (show DataW.trod enc P w base spare held n f4.type ((cs.drop f4.offset).take (P.cellsOf f4.type)) = some y4 from by simpa using hf 4 f4 rfl)
      rw [ho4, h4.sz] at k4
      obtain ⟨a5, k5, q5, p5⟩ := h5.go (show DataW.trod enc P w base spare held n f5.type ((cs.drop f5.offset).take (P.cellsOf f5.type)) = some y5 from by simpa using hf 5 f5 rfl)
      rw [ho5, h5.sz] at k5
      obtain ⟨a6, k6, q6, p6⟩ := h6.go (show DataW.trod enc P w base spare held n f6.type ((cs.drop f6.offset).take (P.cellsOf f6.type)) = some y6 from by simpa using hf 6 f6 rfl)
      rw [ho6, h6.sz] at k6
      refine ⟨(a0, a1, a2, a3, a4, a5, a6), ⟨_, _, ?_, k0, _, _, rfl, k1, _, _, rfl, k2, _, _, rfl, k3, _, _, rfl, k4, _, _, rfl, k5, k6⟩, ⟨q0, q1, q2, q3, q4, q5, q6⟩, ?_⟩
      · rw [List.drop_zero]
        have hd : (cs.drop (d0.sz + d1.sz + d2.sz + d3.sz + d4.sz + d5.sz)).take d6.sz = cs.drop (d0.sz + d1.sz + d2.sz + d3.sz + d4.sz + d5.sz) := List.take_of_length_le (by rw [List.length_drop]; omega)
        rw [hd, seg_join, seg_join, seg_join, seg_join, seg_join, List.take_append_drop]
      · simp only [List.map_cons, List.map_nil, Rows.uptoBulk, Rows.uptoBulkAll]
        omega
/-- a kind that is told by a structure of its own -/
theorem opens_iso {P : Program} {t : TypeId} {α β : Type} {d : Kd α} {good : α → Prop} {bulk : α → Nat} (h : Opens P t d good bulk) (f : β → α) (g : α → β) (hfg : ∀ a, f (g a) = a) : Opens P t (Kd.iso d f) (fun x => good (f x)) (fun x => bulk (f x)) where
  sz := h.sz
  one := fun x => h.one (f x)
  go := by
    intro H enc w base spare held fuel cs x hx
    obtain ⟨a, k, q, p⟩ := h.go hx
    refine ⟨g a, ?_, ?_, ?_⟩
    · show d.K w (f (g a)) cs
      rw [hfg]; exact k
    · rw [hfg]; exact q
    · rw [hfg]; exact p
/-- an argument's bulk, of the whole's -/
theorem bulk_bound {H : Type} {ds : List (DataW H)} (hk : Rows.uptoSmall H ds = true) : Rows.uptoBulkAll ds ≤ 1048576 := of_decide_eq_true hk

end Go.Proofs.Ythkooncibfkepaa.G

/- Printed by the session's program over the kit's print, out of the translation: functions as plain Lean functions, and the proofs that the calls come to them. -/
namespace Go.Proofs.Ythkooncibfkepaa.G
open Go.RowKit Go.Proofs.YthkooncibfkepaaW.PrintWords Go.Proofs.YthkooncibfkepaaW.PrintLast Go.Proofs.YthkooncibfkepaaW.PrintMore
attribute [local go_sem] max2_int min2_int max_two min_two max_three min_three max_four min_four   -- for this text's walks alone
set_option linter.unusedVariables false
set_option linter.unusedSimpArgs false

/-! ### morainelaw04_names: function 14 -/
def morainelaw04_names.f  : Option (Bool) := some true
set_option maxHeartbeats 8000000 in
set_option maxRecDepth 100000 in
theorem morainelaw04_names.calls  (r : Bool) (w : World) (h : morainelaw04_names.f  = some r) :
    Calls Try.prog 14 #[] w fun e w' => e = .returned (.bool r) ∧ Drawn0 w w' := by
  have H : (some true) = some r := h
  clear h
  obtain rfl := Option.some.inj H
  go_enter Try.func14, Try.ntmps14
  go_wp2
  go_ret
  exact ⟨by first | rfl | (simp; done) | (simp [*]; done), by repeat (first | exact Drawn0.refl _ | apply Drawn0.step)⟩

end Go.Proofs.Ythkooncibfkepaa.G

/- Contracts typed by hand: the law BatchChecks: its walk -/
namespace Go.Proofs.Ythkooncibfkepaa.G
open Go.RowKit Go.Proofs.YthkooncibfkepaaW.PrintWords Go.Proofs.YthkooncibfkepaaW.PrintLast Go.Proofs.YthkooncibfkepaaW.PrintMore
attribute [local go_sem] max2_int min2_int max_two min_two max_three min_three max_four min_four
set_option linter.unusedVariables false
set_option linter.unusedSimpArgs false

/-! the law BatchChecks: its walk -/
theorem copied_out {A : Option Addr} {c : Nat} {l : List S65} {w : World} {b : Nat} {ok : Nat → Prop} (h : Kd.R k65 65 w b ok (.slice A (l.length + 1) c) (l ++ [mark04])) : Kd.C k65 w A (l.length + 1) (l ++ [mark04]) ∧ l.length + 1 ≤ c := by
  have := Kd.R_reads' h
  rw [mark04_len] at this
  exact ⟨this.2.2, this.2.1⟩
set_option maxHeartbeats 4000000 in
set_option maxRecDepth 100000 in
theorem BatchChecks_calls (k : Nat) (A0 : Option Addr) (c0 : Nat) (l0 : List S65) (w : World) (hc0 : l0.length ≤ c0) (hr0 : Kd.C k65 w A0 l0.length l0) (hl : l0.length ≤ 2097152) (r1 r2 s1 s2 : Int)
    (h1 : batch_Check.f k l0 = some (r1, r2)) (h2 : moraineref04_Check.f k l0 = some (r1, r2)) (h3 : batch_Size.f k l0 = some (s1, s2)) (h4 : moraineref04_Size.f k l0 = some (s1, s2)) :
    Calls Try.prog 3 #[.slice A0 l0.length c0] w fun e w' => e = .returned (.bool true) ∧ Below w.heap.size w w' := by
  have HR0 := Aside0.mk hr0
  have HC0 := Aside0.mk hc0
  have HL := Aside0.mk hl
  have H1 := Aside0.mk h1
  have H2 := Aside0.mk h2
  have H3 := Aside0.mk h3
  have H4 := Aside0.mk h4
  clear hc0 hr0 hl h1 h2 h3 h4
  go_enter Try.func3, Try.ntmps3
  go_wp2_with fail
  (with_reducible refine (morainelaw04_names.calls true _ rfl).mono ?_)
  rintro e w1 ⟨rfl, hd⟩
  have HB1 := Aside0.mk hd.below
  clear hd
  go_wp2_with fail
  (with_reducible refine (morainelaw04_copied.calls A0 c0 l0 _ (Kd.C_below HR0.out HB1.out) HL.out).mono ?_)
  rintro e w2 ⟨A2, c2, rfl, ho, hb⟩
  have HB2 := Aside0.mk (below_step HB1.out hb)
  have HO2 := Aside0.mk (copied_out ho)
  have HP2 := Aside0.mk (C_prefix65 (ys := [mark04]) (copied_out ho).1)
  have HC2 := Aside0.mk (show l0.length ≤ c2 by have := (copied_out ho).2; omega)
  clear hb ho
  go_wp2_with fail
  (with_reducible refine (batch_Check.calls k A2 c2 l0 _ _ _ HP2.out HC2.out H1.out).mono ?_)
  rintro e w3 ⟨rfl, hb⟩
  have HB3 := Aside0.mk (below_step HB2.out hb)
  have HN3 := Aside0.mk hb
  clear hb
  go_wp2_with fail
  (with_reducible refine (moraineref04_Check.calls k A0 c0 l0 _ _ _ (Kd.C_below HR0.out HB3.out) HC0.out H2.out).mono ?_)
  rintro e w4 ⟨rfl, hb⟩
  have HB4 := Aside0.mk (below_step HB3.out hb)
  have HN4 := Aside0.mk (below_step HN3.out hb)
  clear hb
  go_wp2_with fail
  (with_reducible refine (batch_Size.calls k A2 c2 l0 _ _ _ (Kd.C_below HP2.out HN4.out) HC2.out H3.out).mono ?_)
  rintro e w5 ⟨rfl, hb⟩
  have HB5 := Aside0.mk (below_step HB4.out hb)
  have HN5 := Aside0.mk (below_step HN4.out hb)
  clear hb
  go_wp2_with fail
  (with_reducible refine (moraineref04_Size.calls k A0 c0 l0 _ _ _ (Kd.C_below HR0.out HB5.out) HC0.out H4.out).mono ?_)
  rintro e w6 ⟨rfl, hb⟩
  have HB6 := Aside0.mk (below_step HB5.out hb)
  have HN6 := Aside0.mk (below_step HN5.out hb)
  clear hb
  go_wp2_with fail
  (with_reducible refine (morainelaw04_stay.calls A2 c2 l0 A0 c0 _ (Kd.C_below HO2.out.1 HN6.out) HO2.out.2 (Kd.C_below HR0.out HB6.out) HC0.out HL.out).mono ?_)
  rintro e w7 ⟨rfl, hd⟩
  have HB7 := Aside0.mk (below_step HB6.out hd.below)
  clear hd
  go_wp2
  go_ret
  exact ⟨by simp, HB7.out⟩
theorem sane_of_bulk {l : List S65} (h : sumBulk (fun x : S65 => 1 + (x.f1.size + 1) + (x.f2.size + 1) + 1) l ≤ 1048576) : Sane l := by
  refine ⟨Nat.le_trans (sumBulk_len _ (fun x => by omega) l) h, fun x hx => ?_⟩
  have := sumBulk_mem (fun x : S65 => 1 + (x.f1.size + 1) + (x.f2.size + 1) + 1) hx
  (try simp only [] at this)
  omega
theorem BatchChecks_upto (w : World) (A0 : Option Addr) (c0 : Nat) (l0 : List S65) (hc0 : l0.length ≤ c0) (hr0 : Kd.C k65 w A0 l0.length l0) (hg0 : ∀ x ∈ l0, (Lit.int .i64 x.f0).wf = true ∧ x.f1.size ≤ maxLen ∧ x.f2.size ≤ maxLen)
    (hbulk : (sumBulk (fun x : S65 => 1 + (x.f1.size + 1) + (x.f2.size + 1) + 1) l0 + 1) ≤ 1048576) :
    Calls Try.prog 3 #[.slice A0 l0.length c0] w fun e w' => e = .returned (.bool true) ∧ Below w.heap.size w w' := by
  have hs := sane_of_bulk (l := l0) (by omega)
  have hl := hs.1
  exact BatchChecks_calls (13 + 2 * l0.length) A0 c0 l0 w hc0 hr0 (by omega) _ _ _ _ (check_eq _ l0 hs (by omega)) (refcheck_eq _ l0 hs (by omega)) (batchsize_eq _ l0 hs (by omega)) (refSize_eq _ l0 hs (by omega))

end Go.Proofs.Ythkooncibfkepaa.G

/- Printed by the session's program over the kit's print, out of the translation: functions as plain Lean functions, and the proofs that the calls come to them. -/
namespace Go.Proofs.Ythkooncibfkepaa.G
open Go.RowKit Go.Proofs.YthkooncibfkepaaW.PrintWords Go.Proofs.YthkooncibfkepaaW.PrintLast Go.Proofs.YthkooncibfkepaaW.PrintMore
attribute [local go_sem] max2_int min2_int max_two min_two max_three min_three max_four min_four   -- for this text's walks alone
set_option linter.unusedVariables false
set_option linter.unusedSimpArgs false

/-! ### morainelaw04_works: function 39 -/
def morainelaw04_works.f (k : Nat)  : Option (Bool) := (batch_Encode.f k 1 (([(⟨1, (⟨#[107]⟩ : ByteArray), (⟨#[118]⟩ : ByteArray)⟩ : S65), (⟨0, (⟨#[100]⟩ : ByteArray), (⟨#[]⟩ : ByteArray)⟩ : S65)] : List (S65)))).bind fun bt294 => (if bt294.2 = 0 then (some ((strOfNums bt294.1).toList == ([1, 0, 0, 0, 0, 0, 0, 0, 2, 0, 0, 0, 1, 1, 107, 1, 118, 0, 1, 100] : List UInt8))) else (some false))
theorem morainelaw04_works.mono : ∀ k, LeO (morainelaw04_works.f k ) (morainelaw04_works.f (k + 1) ) := by
  intro  k
  unfold morainelaw04_works.f
  repeat' first
      | (with_reducible exact batch_Encode.mono _ _ _)
      | (with_reducible exact LeO.refl _)
      | (with_reducible exact LeO.none _)
      | (with_reducible refine LeO.ite ?_ ?_)
      | (with_reducible refine LeO.bind ?_ (fun _ => ?_))
      | exact batch_Encode.mono _ _ _
      | exact LeO.none _
      | refine LeO.ite ?_ ?_
      | refine LeO.bind ?_ (fun _ => ?_)
set_option maxHeartbeats 8000000 in
set_option maxRecDepth 100000 in
theorem morainelaw04_works.calls (k : Nat)  (r : Bool) (w : World) (h : morainelaw04_works.f k  = some r) :
    Calls Try.prog 39 #[] w fun e w' => e = .returned (.bool r) ∧ Below w.heap.size w w' := by
  have hu65 := Try.underlying65
  have HB := Aside0.mk (Below.refl w.heap.size w)
  have H : ((batch_Encode.f k 1 (([(⟨1, (⟨#[107]⟩ : ByteArray), (⟨#[118]⟩ : ByteArray)⟩ : S65), (⟨0, (⟨#[100]⟩ : ByteArray), (⟨#[]⟩ : ByteArray)⟩ : S65)] : List (S65)))).bind fun bt294 => (if bt294.2 = 0 then (some ((strOfNums bt294.1).toList == ([1, 0, 0, 0, 0, 0, 0, 0, 2, 0, 0, 0, 1, 1, 107, 1, 118, 0, 1, 100] : List UInt8))) else (some false))) = some r := h
  clear h
  obtain ⟨y291, hy291⟩ : ∃ y_ : List (S65), y_ = (([(⟨1, (⟨#[107]⟩ : ByteArray), (⟨#[118]⟩ : ByteArray)⟩ : S65), (⟨0, (⟨#[100]⟩ : ByteArray), (⟨#[]⟩ : ByteArray)⟩ : S65)] : List (S65))) := ⟨_, rfl⟩
  replace H : ((batch_Encode.f k 1 y291).bind fun bt294 => (if bt294.2 = 0 then (some ((strOfNums bt294.1).toList == ([1, 0, 0, 0, 0, 0, 0, 0, 2, 0, 0, 0, 1, 1, 107, 1, 118, 0, 1, 100] : List UInt8))) else (some false))) = some r := by first | (rw [hy291]; with_reducible exact H) | (have H2_ := (Option.bind_some _ _).symm.trans H; rw [hy291]; with_reducible exact H2_) | (have H2_ := (Option.bind_some _ _).symm.trans H; with_reducible exact H2_) | with_reducible exact H | (rw [hy291]; exact H) | exact H
  have Ny291 := Aside0.mk hy291
  clear hy291
  replace H := Option.bind_eq_some_iff.mp H
  obtain ⟨⟨t294, t295⟩, A10, H⟩ := H
  replace H : (if t295 = 0 then (some ((strOfNums t294).toList == ([1, 0, 0, 0, 0, 0, 0, 0, 2, 0, 0, 0, 1, 1, 107, 1, 118, 0, 1, 100] : List UInt8))) else (some false)) = some r := H
  have A1 := Aside0.mk A10
  clear A10
  by_cases c2 : t295 = 0
  · rw [if_pos c2] at H
    have c2b0 : (t295 == 0) = true := beq_iff_eq.mpr c2
    have c2b1 : (t295 != 0) = false := bne_eq_false_iff_eq.mpr c2
    clear c2
    obtain rfl := Option.some.inj H
    go_enter Try.func39, Try.ntmps39
    go_wp2_with (first | ((with_reducible refine gate_dst (N := 6) rfl ?_); refine Kd.R_lit k65 _ 65 ?hg (N := 6) ?hd (xs := ([(⟨1, (⟨#[107]⟩ : ByteArray), (⟨#[118]⟩ : ByteArray)⟩ : S65), (⟨0, (⟨#[100]⟩ : ByteArray), (⟨#[]⟩ : ByteArray)⟩ : S65)] : List (S65))) (inner := [.int .i64 1, .string (⟨#[107]⟩ : ByteArray), .string (⟨#[118]⟩ : ByteArray), .int .i64 0, .string (⟨#[100]⟩ : ByteArray), .string (⟨#[]⟩ : ByteArray)]) (ok := fun _ => True) (okp := fun _ => True) ?hr ?hp (fun _ hk => hk) trivial (Below.refl _ _) (Nat.le_refl _) (by simp) ?_; (case hd => rfl); (case hg => rfl); (case hr => first | (go_simp; done) | (go_simp; rfl)); (case hp => exact (Reps.c3 (show Kd.M k65 _ _ _ (⟨1, (⟨#[107]⟩ : ByteArray), (⟨#[118]⟩ : ByteArray)⟩ : S65) [.int .i64 1, .string (⟨#[107]⟩ : ByteArray), .string (⟨#[118]⟩ : ByteArray)] from (k65_mkM _ _ _ (⟨1, (⟨#[107]⟩ : ByteArray), (⟨#[118]⟩ : ByteArray)⟩ : S65) )) (Reps.c3 (show Kd.M k65 _ _ _ (⟨0, (⟨#[100]⟩ : ByteArray), (⟨#[]⟩ : ByteArray)⟩ : S65) [.int .i64 0, .string (⟨#[100]⟩ : ByteArray), .string (⟨#[]⟩ : ByteArray)] from (k65_mkM _ _ _ (⟨0, (⟨#[100]⟩ : ByteArray), (⟨#[]⟩ : ByteArray)⟩ : S65) )) (Reps.none _ _)))); intro v292 w3 ho4 hb hg_ hnew_; clear hg_ hnew_; (first | rw [← Ny291.out] at ho4 | (simp only [Int.reduceToNat] at ho4; rw [← Ny291.out] at ho4)); have n0_ := Aside0.mk (Kd.R_lower ho4 (below_size (by repeat (first | (with_reducible first | exact HB.out | apply below_alloc | apply pw_below_drewN | apply below_drew1) | exact HB.out)))); have n1_ := Aside0.mk (below_step (by repeat (first | (with_reducible first | exact HB.out | apply below_alloc | apply pw_below_drewN | apply below_drew1) | exact HB.out)) hb); clear HB; have HO293 := n0_; have HB := n1_; clear n0_ n1_; clear hb ho4; obtain ⟨Ao5, co5, eo5⟩ := Kd.R_slice HO293.out; subst eo5) | ((with_reducible refine gate_callee (f := 21) rfl ?_); refine goesL_ (some 7) rfl rfl Try.func21 (by kernel_rfl) rfl #[.int .u64 1, .slice Ao5 y291.length co5] rfl (by (try simp only [List.map_toArray, List.map_cons, List.map_nil]); first | done | rfl | (simp only [List.length_drop, List.length_take]; rfl)) ?_; (with_reducible refine (batch_Encode.calls k 1 _ _ y291 t294 t295 _ ?side1 ?side2 A1.out).mono ?_); (case side1 => repeat (first | exact (Kd.R_reads' HO293.out).2.2 | (with_reducible refine Kd.C_alloc ?_ _) | (with_reducible refine Kd.C_drewN ?_ _) | (with_reducible refine Kd.C_drew ?_))); (case side2 => exact (Kd.R_reads' HO293.out).2.1); rintro e w6 ⟨v296, rfl, ho0, hb⟩; refine ⟨_, rfl, ?_⟩; have n0_ := Aside0.mk (Kd.R_below (by (with_reducible repeat (first | apply Kd.R_alloc | apply Kd.R_drewN | apply Kd.R_drew)); exact HO293.out) hb); have n1_ := Aside0.mk (Kd.R_lower ho0 (below_size (by repeat (first | (with_reducible first | exact HB.out | apply below_alloc | apply pw_below_drewN | apply below_drew1) | exact HB.out)))); have n2_ := Aside0.mk (below_step (by repeat (first | (with_reducible first | exact HB.out | apply below_alloc | apply pw_below_drewN | apply below_drew1) | exact HB.out)) hb); clear HO293; clear HB; have HO293 := n0_; have HO297 := n1_; have HB := n2_; clear n0_ n1_ n2_; (try clear hb); (try clear hb2); (try clear hk); (try clear hi); (try clear ho0); have hcv7 := own_string (P := Try.prog) Try.underlying33 Try.underlying5 Try.underlying9 (Kd.own_of_R HO297.out)))
    go_ret
    exact ⟨by first | rfl | (simp [errW_none, errW_some] <;> rfl) | (simp [*, errW_none, errW_some] <;> rfl), by repeat (first | (with_reducible first | exact HB.out | apply below_alloc | apply pw_below_drewN | apply below_drew1) | exact HB.out)⟩
  · rw [if_neg c2] at H
    have c2b0 : (t295 == 0) = false := beq_eq_false_iff_ne.mpr c2
    have c2b1 : (t295 != 0) = true := bne_iff_ne.mpr c2
    obtain rfl := Option.some.inj H
    go_enter Try.func39, Try.ntmps39
    go_wp2_with (first | ((with_reducible refine gate_dst (N := 6) rfl ?_); refine Kd.R_lit k65 _ 65 ?hg (N := 6) ?hd (xs := ([(⟨1, (⟨#[107]⟩ : ByteArray), (⟨#[118]⟩ : ByteArray)⟩ : S65), (⟨0, (⟨#[100]⟩ : ByteArray), (⟨#[]⟩ : ByteArray)⟩ : S65)] : List (S65))) (inner := [.int .i64 1, .string (⟨#[107]⟩ : ByteArray), .string (⟨#[118]⟩ : ByteArray), .int .i64 0, .string (⟨#[100]⟩ : ByteArray), .string (⟨#[]⟩ : ByteArray)]) (ok := fun _ => True) (okp := fun _ => True) ?hr ?hp (fun _ hk => hk) trivial (Below.refl _ _) (Nat.le_refl _) (by simp) ?_; (case hd => rfl); (case hg => rfl); (case hr => first | (go_simp; done) | (go_simp; rfl)); (case hp => exact (Reps.c3 (show Kd.M k65 _ _ _ (⟨1, (⟨#[107]⟩ : ByteArray), (⟨#[118]⟩ : ByteArray)⟩ : S65) [.int .i64 1, .string (⟨#[107]⟩ : ByteArray), .string (⟨#[118]⟩ : ByteArray)] from (k65_mkM _ _ _ (⟨1, (⟨#[107]⟩ : ByteArray), (⟨#[118]⟩ : ByteArray)⟩ : S65) )) (Reps.c3 (show Kd.M k65 _ _ _ (⟨0, (⟨#[100]⟩ : ByteArray), (⟨#[]⟩ : ByteArray)⟩ : S65) [.int .i64 0, .string (⟨#[100]⟩ : ByteArray), .string (⟨#[]⟩ : ByteArray)] from (k65_mkM _ _ _ (⟨0, (⟨#[100]⟩ : ByteArray), (⟨#[]⟩ : ByteArray)⟩ : S65) )) (Reps.none _ _)))); intro v292 w8 ho9 hb hg_ hnew_; clear hg_ hnew_; (first | rw [← Ny291.out] at ho9 | (simp only [Int.reduceToNat] at ho9; rw [← Ny291.out] at ho9)); have n0_ := Aside0.mk (Kd.R_lower ho9 (below_size (by repeat (first | (with_reducible first | exact HB.out | apply below_alloc | apply pw_below_drewN | apply below_drew1) | exact HB.out)))); have n1_ := Aside0.mk (below_step (by repeat (first | (with_reducible first | exact HB.out | apply below_alloc | apply pw_below_drewN | apply below_drew1) | exact HB.out)) hb); clear HB; have HO293 := n0_; have HB := n1_; clear n0_ n1_; clear hb ho9; obtain ⟨Ao10, co10, eo10⟩ := Kd.R_slice HO293.out; subst eo10) | ((with_reducible refine gate_callee (f := 21) rfl ?_); refine goesL_ (some 7) rfl rfl Try.func21 (by kernel_rfl) rfl #[.int .u64 1, .slice Ao10 y291.length co10] rfl (by (try simp only [List.map_toArray, List.map_cons, List.map_nil]); first | done | rfl | (simp only [List.length_drop, List.length_take]; rfl)) ?_; (with_reducible refine (batch_Encode.calls k 1 _ _ y291 t294 t295 _ ?side1 ?side2 A1.out).mono ?_); (case side1 => repeat (first | exact (Kd.R_reads' HO293.out).2.2 | (with_reducible refine Kd.C_alloc ?_ _) | (with_reducible refine Kd.C_drewN ?_ _) | (with_reducible refine Kd.C_drew ?_))); (case side2 => exact (Kd.R_reads' HO293.out).2.1); rintro e w11 ⟨v296, rfl, ho0, hb⟩; refine ⟨_, rfl, ?_⟩; have n0_ := Aside0.mk (Kd.R_below (by (with_reducible repeat (first | apply Kd.R_alloc | apply Kd.R_drewN | apply Kd.R_drew)); exact HO293.out) hb); have n1_ := Aside0.mk (Kd.R_lower ho0 (below_size (by repeat (first | (with_reducible first | exact HB.out | apply below_alloc | apply pw_below_drewN | apply below_drew1) | exact HB.out)))); have n2_ := Aside0.mk (below_step (by repeat (first | (with_reducible first | exact HB.out | apply below_alloc | apply pw_below_drewN | apply below_drew1) | exact HB.out)) hb); clear HO293; clear HB; have HO293 := n0_; have HO297 := n1_; have HB := n2_; clear n0_ n1_ n2_; (try clear hb); (try clear hb2); (try clear hk); (try clear hi); (try clear ho0)))
    go_ret
    exact ⟨by first | rfl | (simp [errW_none, errW_some] <;> rfl) | (simp [*, errW_none, errW_some] <;> rfl), by repeat (first | (with_reducible first | exact HB.out | apply below_alloc | apply pw_below_drewN | apply below_drew1) | exact HB.out)⟩

end Go.Proofs.Ythkooncibfkepaa.G

/- Contracts typed by hand: the law BatchBack: its walk -/
namespace Go.Proofs.Ythkooncibfkepaa.G
open Go.RowKit Go.Proofs.YthkooncibfkepaaW.PrintWords Go.Proofs.YthkooncibfkepaaW.PrintLast Go.Proofs.YthkooncibfkepaaW.PrintMore
attribute [local go_sem] max2_int min2_int max_two min_two max_three min_three max_four min_four
set_option linter.unusedVariables false
set_option linter.unusedSimpArgs false

/-! the law BatchBack: its walk -/
theorem works_true (k : Nat) (hk : 13 ≤ k) : morainelaw04_works.f k = some true := by
  unfold morainelaw04_works.f
  rw [encode_eq k 1 _ (by decide) ⟨by decide, fun x hx => by simp at hx; rcases hx with rfl | rfl <;> exact ⟨by decide, by decide⟩⟩ (by simpa using hk)]
  have h : encR 1 [(⟨1, (⟨#[107]⟩ : ByteArray), (⟨#[118]⟩ : ByteArray)⟩ : S65), (⟨0, (⟨#[100]⟩ : ByteArray), (⟨#[]⟩ : ByteArray)⟩ : S65)] = ([1, 0, 0, 0, 0, 0, 0, 0, 2, 0, 0, 0, 1, 1, 107, 1, 118, 0, 1, 100], 0) := by decide +kernel
  rw [h, Option.bind_some]
  simp only [if_true]
  decide +kernel
theorem batch_Decode_calls' (A : Option Addr) (c : Nat) (b : List Int) (r : Int × List Op04 × Int) (w : World) (hr0 : Kd.C (Kd.int .u8) w A b.length b) (hc : b.length ≤ c) (hb : Bytes b) (hlen : b.length ≤ 1048576) (h : decB b = r) :
    Calls Try.prog 33 #[.slice A b.length c] w fun e w' => ∃ v0_ : Value, e = .returned (.tuple #[.int .u64 r.1, v0_, .int .i64 r.2.2]) ∧ Kd.R k65 65 w' w.heap.size (fun _ => True) v0_ r.2.1 ∧ Below w.heap.size w w' := by
  subst h
  exact batch_Decode_calls A c b w hr0 hc hb hlen
theorem encR_short (seq : Int) (l : List Op04) (h : (encR seq l).2 = 0) : (encR seq l).1.length ≤ 1048576 ∧ Bytes (encR seq l).1 := by
  obtain ⟨hc, hf, e⟩ := encR_ok h
  have ht := (chk_ok hc).2.2.2
  rw [e]
  refine ⟨?_, encB_bytes _ _⟩
  show (encB seq l).length ≤ 1048576
  rw [encB_len]
  exact ht
theorem decB_seq (b : List Int) (hb : Bytes b) : 0 ≤ (decB b).1 := by
  have h := (seg8_small b hb).1
  unfold decB
  split
  · exact Int.le_refl _
  · split
    · exact h
    · exact Int.le_refl _
theorem decB_sane (b : List Int) (hb : Bytes b) (hl : b.length ≤ 1048576) : Sane (decB b).2.1 := by
  have h := sane_gone b hb hl
  have h0 : Sane ([] : List Op04) := ⟨by simp, fun x hx => by cases hx⟩
  unfold decB
  split
  · exact h0
  · split
    · exact h
    · exact h0
set_option maxHeartbeats 8000000 in
set_option maxRecDepth 100000 in
theorem BatchBack_aa (a0 : Int) (h0 : 0 ≤ a0) (h64 : a0 < 18446744073709551616) (A1 : Option Addr) (c1 : Nat) (l1 : List Op04) (A2 : Option Addr) (c2 : Nat) (l2 : List Int) (w : World) (hc1 : l1.length ≤ c1) (hr1 : Kd.C k65 w A1 l1.length l1) (hs : Sane l1) (hc2 : l2.length ≤ c2) (hr2 : Kd.C (Kd.int .u8) w A2 l2.length l2) (hb2 : Bytes l2) (hl2 : l2.length ≤ 1048576)
    (hf : (encR a0 l1).2 = 0) (hd : (decB l2).2.2 = 0) :
    Calls Try.prog 7 #[.int .u64 a0, .slice A1 l1.length c1, .slice A2 l2.length c2] w fun e w' => e = .returned (.bool true) ∧ Below w.heap.size w w' := by
  have HR1 := Aside0.mk hr1
  have HC1 := Aside0.mk hc1
  have HR2 := Aside0.mk hr2
  have HC2 := Aside0.mk hc2
  have HB2 := Aside0.mk hb2
  have HL2 := Aside0.mk hl2
  have HS := Aside0.mk (show l1.length ≤ 1099511627776 from Nat.le_trans (And.left (show _ ∧ _ from hs)) (by decide))
  have H1 := Aside0.mk (encode_eq (11 + l1.length) a0 l1 h0 hs (Nat.le_refl _))
  have HE := Aside0.mk (encR_short a0 l1 hf)
  have HP := Aside0.mk (show decB (encR a0 l1).1 = (a0, l1, 0) by rw [(encR_ok hf).2.2]; exact decB_put a0 l1 h0 h64 hf)
  have HY := Aside0.mk (decB_at l2 hb2 hl2 hd).2
  have H3 := Aside0.mk (encode_eq (11 + (decB l2).2.1.length) (decB l2).1 (decB l2).2.1 (decB_seq l2 hb2) (decB_sane l2 hb2 hl2) (Nat.le_refl _))
  have hf2_ := hf
  clear hr1 hc1 hr2 hc2 hb2 hl2 hs hf
  go_enter Try.func7, Try.ntmps7
  go_wp2_with fail
  (with_reducible refine (morainelaw04_works.calls 13 true _ (works_true 13 (Nat.le_refl _))).mono ?_)
  rintro e w1 ⟨rfl, hb⟩
  have HW1 := Aside0.mk hb
  clear hb
  go_wp2_with fail
  (with_reducible refine (batch_Encode.calls _ a0 A1 c1 l1 _ _ _ (Kd.C_below HR1.out HW1.out) HC1.out H1.out).mono ?_)
  rintro e w2 ⟨v2, rfl, ho, hb⟩
  have HO2 := Aside0.mk ho
  have HW2 := Aside0.mk (below_step HW1.out hb)
  clear hb ho
  obtain ⟨r, hr⟩ : ∃ r, encR a0 l1 = r := ⟨_, rfl⟩
  have HO3 := HO2.out
  have HE3 := HE.out
  have HP3 := HP.out
  have hf0 : (encR a0 l1).2 = 0 := by have := hf2_; exact this
  rw [hr] at HO3 HE3 HP3 hf0 ⊢
  obtain ⟨r, f⟩ := r
  obtain rfl : f = 0 := hf0
  obtain ⟨A3, c3, rfl, hl3, hC3⟩ := Kd.R_reads HO3
  dsimp only [] at HE3 HP3 HO3 hl3 hC3 ⊢
  have HC3 := Aside0.mk hC3
  have HL3 := Aside0.mk hl3
  have HE4 := Aside0.mk HE3
  have HP4 := Aside0.mk HP3
  clear hr hf2_ HO2 HO3 HE HE3 HP HP3 hC3 hl3 H1
  go_wp2_with fail
  (with_reducible refine (batch_Decode_calls' A3 c3 r _ _ HC3.out HL3.out HE4.out.2 HE4.out.1 HP4.out).mono ?_)
  rintro e w3 ⟨v3, rfl, ho, hb⟩
  obtain ⟨A4, c4, rfl, hl4, hC4⟩ := Kd.R_reads ho
  have HC4 := Aside0.mk hC4
  have HL4 := Aside0.mk hl4
  have HW2 := Aside0.mk (below_step HW2.out hb)
  clear hb ho hC4 hl4
  go_wp2_with fail
  (with_reducible refine (morainelaw04_same.calls _ A4 c4 l1 A1 c1 l1 _ _ HC4.out HL4.out (Kd.C_below HR1.out HW2.out) HC1.out (same_self l1 HS.out)).mono ?_)
  rintro e w4 ⟨rfl, hd4⟩
  have HW2 := Aside0.mk (below_step HW2.out hd4.below)
  clear hd4
  go_wp2_with fail
  (with_reducible refine (batch_Decode_calls' A2 c2 l2 _ _ (Kd.C_below HR2.out HW2.out) HC2.out HB2.out HL2.out rfl).mono ?_)
  rintro e w5 ⟨v5, rfl, ho, hb⟩
  have HW5 := Aside0.mk (below_step HW2.out hb)
  have H33 := H3.out
  have HY3 := HY.out
  generalize decB l2 = D at ho H33 HY3 hd ⊢
  obtain ⟨n, L, z⟩ := D
  dsimp only [] at ho H33 HY3 hd ⊢
  subst hd
  obtain ⟨A6, c6, rfl, hl6, hC6⟩ := Kd.R_reads ho
  have HC6 := Aside0.mk hC6
  have HL6 := Aside0.mk hl6
  rw [HY3] at H33
  have H3 := Aside0.mk H33
  clear hb ho hC6 hl6 HY3 HY H33
  go_wp2_with fail
  (with_reducible refine (batch_Encode.calls _ n A6 c6 L _ _ _ HC6.out HL6.out H3.out).mono ?_)
  rintro e w7 ⟨v7, rfl, ho, hb⟩
  have HW7 := Aside0.mk (below_step HW5.out hb)
  have hcv7 := own_string (P := Try.prog) Try.underlying33 Try.underlying5 Try.underlying9 (Kd.own_of_R ho)
  obtain ⟨B7, d7, rfl⟩ := Kd.R_slice ho
  have hcv2 := Kd.C_string (P := Try.prog) (A := A2) (c := c2) Try.underlying33 Try.underlying5 Try.underlying9 (Kd.C_below HR2.out HW7.out)
  clear hb ho
  generalize hn : l2.length = m at *
  go_wp2
  go_ret
  exact ⟨by simp, HW7.out⟩
set_option maxHeartbeats 8000000 in
set_option maxRecDepth 100000 in
theorem BatchBack_ab (a0 : Int) (h0 : 0 ≤ a0) (h64 : a0 < 18446744073709551616) (A1 : Option Addr) (c1 : Nat) (l1 : List Op04) (A2 : Option Addr) (c2 : Nat) (l2 : List Int) (w : World) (hc1 : l1.length ≤ c1) (hr1 : Kd.C k65 w A1 l1.length l1) (hs : Sane l1) (hc2 : l2.length ≤ c2) (hr2 : Kd.C (Kd.int .u8) w A2 l2.length l2) (hb2 : Bytes l2) (hl2 : l2.length ≤ 1048576)
    (hf : (encR a0 l1).2 = 0) (hd : (decB l2).2.2 ≠ 0) :
    Calls Try.prog 7 #[.int .u64 a0, .slice A1 l1.length c1, .slice A2 l2.length c2] w fun e w' => e = .returned (.bool true) ∧ Below w.heap.size w w' := by
  have HR1 := Aside0.mk hr1
  have HC1 := Aside0.mk hc1
  have HR2 := Aside0.mk hr2
  have HC2 := Aside0.mk hc2
  have HB2 := Aside0.mk hb2
  have HL2 := Aside0.mk hl2
  have HS := Aside0.mk (show l1.length ≤ 1099511627776 from Nat.le_trans (And.left (show _ ∧ _ from hs)) (by decide))
  have H1 := Aside0.mk (encode_eq (11 + l1.length) a0 l1 h0 hs (Nat.le_refl _))
  have HE := Aside0.mk (encR_short a0 l1 hf)
  have HP := Aside0.mk (show decB (encR a0 l1).1 = (a0, l1, 0) by rw [(encR_ok hf).2.2]; exact decB_put a0 l1 h0 h64 hf)
  have HD := Aside0.mk (decB_bad l2 hd)
  have hf2_ := hf
  clear hr1 hc1 hr2 hc2 hb2 hl2 hs hf
  go_enter Try.func7, Try.ntmps7
  go_wp2_with fail
  (with_reducible refine (morainelaw04_works.calls 13 true _ (works_true 13 (Nat.le_refl _))).mono ?_)
  rintro e w1 ⟨rfl, hb⟩
  have HW1 := Aside0.mk hb
  clear hb
  go_wp2_with fail
  (with_reducible refine (batch_Encode.calls _ a0 A1 c1 l1 _ _ _ (Kd.C_below HR1.out HW1.out) HC1.out H1.out).mono ?_)
  rintro e w2 ⟨v2, rfl, ho, hb⟩
  have HO2 := Aside0.mk ho
  have HW2 := Aside0.mk (below_step HW1.out hb)
  clear hb ho
  obtain ⟨r, hr⟩ : ∃ r, encR a0 l1 = r := ⟨_, rfl⟩
  have HO3 := HO2.out
  have HE3 := HE.out
  have HP3 := HP.out
  have hf0 : (encR a0 l1).2 = 0 := by have := hf2_; exact this
  rw [hr] at HO3 HE3 HP3 hf0 ⊢
  obtain ⟨r, f⟩ := r
  obtain rfl : f = 0 := hf0
  obtain ⟨A3, c3, rfl, hl3, hC3⟩ := Kd.R_reads HO3
  dsimp only [] at HE3 HP3 HO3 hl3 hC3 ⊢
  have HC3 := Aside0.mk hC3
  have HL3 := Aside0.mk hl3
  have HE4 := Aside0.mk HE3
  have HP4 := Aside0.mk HP3
  clear hr hf2_ HO2 HO3 HE HE3 HP HP3 hC3 hl3 H1
  go_wp2_with fail
  (with_reducible refine (batch_Decode_calls' A3 c3 r _ _ HC3.out HL3.out HE4.out.2 HE4.out.1 HP4.out).mono ?_)
  rintro e w3 ⟨v3, rfl, ho, hb⟩
  obtain ⟨A4, c4, rfl, hl4, hC4⟩ := Kd.R_reads ho
  have HC4 := Aside0.mk hC4
  have HL4 := Aside0.mk hl4
  have HW2 := Aside0.mk (below_step HW2.out hb)
  clear hb ho hC4 hl4
  go_wp2_with fail
  (with_reducible refine (morainelaw04_same.calls _ A4 c4 l1 A1 c1 l1 _ _ HC4.out HL4.out (Kd.C_below HR1.out HW2.out) HC1.out (same_self l1 HS.out)).mono ?_)
  rintro e w4 ⟨rfl, hd4⟩
  have HW2 := Aside0.mk (below_step HW2.out hd4.below)
  clear hd4
  go_wp2_with fail
  (with_reducible refine (batch_Decode_calls' A2 c2 l2 _ _ (Kd.C_below HR2.out HW2.out) HC2.out HB2.out HL2.out HD.out).mono ?_)
  rintro e w5 ⟨v5, rfl, ho, hb⟩
  have HW5 := Aside0.mk (below_step HW2.out hb)
  obtain ⟨A6, c6, rfl, hl6, hC6⟩ := Kd.R_reads ho
  clear hb ho hC6 hl6
  go_wp2
  go_ret
  exact ⟨by simp, HW5.out⟩
set_option maxHeartbeats 8000000 in
set_option maxRecDepth 100000 in
theorem BatchBack_ba (a0 : Int) (h0 : 0 ≤ a0) (h64 : a0 < 18446744073709551616) (A1 : Option Addr) (c1 : Nat) (l1 : List Op04) (A2 : Option Addr) (c2 : Nat) (l2 : List Int) (w : World) (hc1 : l1.length ≤ c1) (hr1 : Kd.C k65 w A1 l1.length l1) (hs : Sane l1) (hc2 : l2.length ≤ c2) (hr2 : Kd.C (Kd.int .u8) w A2 l2.length l2) (hb2 : Bytes l2) (hl2 : l2.length ≤ 1048576)
    (hf : (encR a0 l1).2 ≠ 0) (hd : (decB l2).2.2 = 0) :
    Calls Try.prog 7 #[.int .u64 a0, .slice A1 l1.length c1, .slice A2 l2.length c2] w fun e w' => e = .returned (.bool true) ∧ Below w.heap.size w w' := by
  have HR1 := Aside0.mk hr1
  have HC1 := Aside0.mk hc1
  have HR2 := Aside0.mk hr2
  have HC2 := Aside0.mk hc2
  have HB2 := Aside0.mk hb2
  have HL2 := Aside0.mk hl2
  have HS := Aside0.mk (show l1.length ≤ 1099511627776 from Nat.le_trans (And.left (show _ ∧ _ from hs)) (by decide))
  have H1 := Aside0.mk (encode_eq (11 + l1.length) a0 l1 h0 hs (Nat.le_refl _))
  have HF := Aside0.mk hf
  have HY := Aside0.mk (decB_at l2 hb2 hl2 hd).2
  have H3 := Aside0.mk (encode_eq (11 + (decB l2).2.1.length) (decB l2).1 (decB l2).2.1 (decB_seq l2 hb2) (decB_sane l2 hb2 hl2) (Nat.le_refl _))
  clear hr1 hc1 hr2 hc2 hb2 hl2 hs hf
  go_enter Try.func7, Try.ntmps7
  go_wp2_with fail
  (with_reducible refine (morainelaw04_works.calls 13 true _ (works_true 13 (Nat.le_refl _))).mono ?_)
  rintro e w1 ⟨rfl, hb⟩
  have HW1 := Aside0.mk hb
  clear hb
  go_wp2_with fail
  (with_reducible refine (batch_Encode.calls _ a0 A1 c1 l1 _ _ _ (Kd.C_below HR1.out HW1.out) HC1.out H1.out).mono ?_)
  rintro e w2 ⟨v2, rfl, ho, hb⟩
  have HO2 := Aside0.mk ho
  have HW2 := Aside0.mk (below_step HW1.out hb)
  clear hb ho
  obtain ⟨f, hf⟩ : ∃ f, (encR a0 l1).2 = f := ⟨_, rfl⟩
  have hf0 := HF.out
  rw [hf] at hf0 ⊢
  clear hf HO2 H1
  go_wp2_with fail
  (with_reducible refine (batch_Decode_calls' A2 c2 l2 _ _ (Kd.C_below HR2.out HW2.out) HC2.out HB2.out HL2.out rfl).mono ?_)
  rintro e w5 ⟨v5, rfl, ho, hb⟩
  have HW5 := Aside0.mk (below_step HW2.out hb)
  have H33 := H3.out
  have HY3 := HY.out
  generalize decB l2 = D at ho H33 HY3 hd ⊢
  obtain ⟨n, L, z⟩ := D
  dsimp only [] at ho H33 HY3 hd ⊢
  subst hd
  obtain ⟨A6, c6, rfl, hl6, hC6⟩ := Kd.R_reads ho
  have HC6 := Aside0.mk hC6
  have HL6 := Aside0.mk hl6
  rw [HY3] at H33
  have H3 := Aside0.mk H33
  clear hb ho hC6 hl6 HY3 HY H33
  go_wp2_with fail
  (with_reducible refine (batch_Encode.calls _ n A6 c6 L _ _ _ HC6.out HL6.out H3.out).mono ?_)
  rintro e w7 ⟨v7, rfl, ho, hb⟩
  have HW7 := Aside0.mk (below_step HW5.out hb)
  have hcv7 := own_string (P := Try.prog) Try.underlying33 Try.underlying5 Try.underlying9 (Kd.own_of_R ho)
  obtain ⟨B7, d7, rfl⟩ := Kd.R_slice ho
  have hcv2 := Kd.C_string (P := Try.prog) (A := A2) (c := c2) Try.underlying33 Try.underlying5 Try.underlying9 (Kd.C_below HR2.out HW7.out)
  clear hb ho
  generalize hn : l2.length = m at *
  go_wp2
  go_ret
  exact ⟨by simp, HW7.out⟩
set_option maxHeartbeats 8000000 in
set_option maxRecDepth 100000 in
theorem BatchBack_bb (a0 : Int) (h0 : 0 ≤ a0) (h64 : a0 < 18446744073709551616) (A1 : Option Addr) (c1 : Nat) (l1 : List Op04) (A2 : Option Addr) (c2 : Nat) (l2 : List Int) (w : World) (hc1 : l1.length ≤ c1) (hr1 : Kd.C k65 w A1 l1.length l1) (hs : Sane l1) (hc2 : l2.length ≤ c2) (hr2 : Kd.C (Kd.int .u8) w A2 l2.length l2) (hb2 : Bytes l2) (hl2 : l2.length ≤ 1048576)
    (hf : (encR a0 l1).2 ≠ 0) (hd : (decB l2).2.2 ≠ 0) :
    Calls Try.prog 7 #[.int .u64 a0, .slice A1 l1.length c1, .slice A2 l2.length c2] w fun e w' => e = .returned (.bool true) ∧ Below w.heap.size w w' := by
  have HR1 := Aside0.mk hr1
  have HC1 := Aside0.mk hc1
  have HR2 := Aside0.mk hr2
  have HC2 := Aside0.mk hc2
  have HB2 := Aside0.mk hb2
  have HL2 := Aside0.mk hl2
  have HS := Aside0.mk (show l1.length ≤ 1099511627776 from Nat.le_trans (And.left (show _ ∧ _ from hs)) (by decide))
  have H1 := Aside0.mk (encode_eq (11 + l1.length) a0 l1 h0 hs (Nat.le_refl _))
  have HF := Aside0.mk hf
  have HD := Aside0.mk (decB_bad l2 hd)
  clear hr1 hc1 hr2 hc2 hb2 hl2 hs hf
  go_enter Try.func7, Try.ntmps7
  go_wp2_with fail
  (with_reducible refine (morainelaw04_works.calls 13 true _ (works_true 13 (Nat.le_refl _))).mono ?_)
  rintro e w1 ⟨rfl, hb⟩
  have HW1 := Aside0.mk hb
  clear hb
  go_wp2_with fail
  (with_reducible refine (batch_Encode.calls _ a0 A1 c1 l1 _ _ _ (Kd.C_below HR1.out HW1.out) HC1.out H1.out).mono ?_)
  rintro e w2 ⟨v2, rfl, ho, hb⟩
  have HO2 := Aside0.mk ho
  have HW2 := Aside0.mk (below_step HW1.out hb)
  clear hb ho
  obtain ⟨f, hf⟩ : ∃ f, (encR a0 l1).2 = f := ⟨_, rfl⟩
  have hf0 := HF.out
  rw [hf] at hf0 ⊢
  clear hf HO2 H1
  go_wp2_with fail
  (with_reducible refine (batch_Decode_calls' A2 c2 l2 _ _ (Kd.C_below HR2.out HW2.out) HC2.out HB2.out HL2.out HD.out).mono ?_)
  rintro e w5 ⟨v5, rfl, ho, hb⟩
  have HW5 := Aside0.mk (below_step HW2.out hb)
  obtain ⟨A6, c6, rfl, hl6, hC6⟩ := Kd.R_reads ho
  clear hb ho hC6 hl6
  go_wp2
  go_ret
  exact ⟨by simp, HW5.out⟩
theorem BatchBack_upto (w : World) (a0 : Int) (hg0 : (Lit.int .u64 a0).wf = true) (A1 : Option Addr) (c1 : Nat) (l1 : List S65) (hc1 : l1.length ≤ c1) (hr1 : Kd.C k65 w A1 l1.length l1) (hg1 : ∀ x ∈ l1, (Lit.int .i64 x.f0).wf = true ∧ x.f1.size ≤ maxLen ∧ x.f2.size ≤ maxLen) (A2 : Option Addr) (c2 : Nat) (l2 : List Int) (hc2 : l2.length ≤ c2) (hr2 : Kd.C (Kd.int .u8) w A2 l2.length l2) (hg2 : ∀ x ∈ l2, (Lit.int .u8 x).wf = true)
    (hbulk : 1 + (sumBulk (fun x : S65 => 1 + (x.f1.size + 1) + (x.f2.size + 1) + 1) l1 + 1) + (sumBulk (fun _ : Int => 1) l2 + 1) ≤ 1048576) :
    Calls Try.prog 7 #[.int .u64 a0, .slice A1 l1.length c1, .slice A2 l2.length c2] w fun e w' => e = .returned (.bool true) ∧ Below w.heap.size w w' := by
  have hs := sane_of_bulk (l := l1) (by omega)
  have ha : 0 ≤ a0 ∧ a0 ≤ 18446744073709551615 := by simpa [Lit.wf, IntKind.min, IntKind.max, IntKind.signed, IntKind.bits] using hg0
  have hb := bytes_of_wf hg2
  have hlb := sumBulk_len (fun _ : Int => 1) (fun _ => Nat.le_refl _) l2
  by_cases hf : (encR a0 l1).2 = 0
  · by_cases hd : (decB l2).2.2 = 0
    · exact BatchBack_aa a0 ha.1 (by omega) A1 c1 l1 A2 c2 l2 w hc1 hr1 hs hc2 hr2 hb (by omega) hf hd
    · exact BatchBack_ab a0 ha.1 (by omega) A1 c1 l1 A2 c2 l2 w hc1 hr1 hs hc2 hr2 hb (by omega) hf hd
  · by_cases hd : (decB l2).2.2 = 0
    · exact BatchBack_ba a0 ha.1 (by omega) A1 c1 l1 A2 c2 l2 w hc1 hr1 hs hc2 hr2 hb (by omega) hf hd
    · exact BatchBack_bb a0 ha.1 (by omega) A1 c1 l1 A2 c2 l2 w hc1 hr1 hs hc2 hr2 hb (by omega) hf hd

end Go.Proofs.Ythkooncibfkepaa.G
